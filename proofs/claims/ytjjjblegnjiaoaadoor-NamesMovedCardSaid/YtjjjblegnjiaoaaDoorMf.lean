/- NamesMoved: the walk. -/
import Derived.Test.YtjjjblegnjiaoaaDoorMe
import Derived.Test.YtjjjblegnjiaoaaDoorMd
-- STRINGS
-- ROWS
-- PRUNEC
namespace Go.Proofs.YtjjjblegnjiaoaaDoor
open Go Go.RowKit Go.Kx Go.Fr
set_option maxHeartbeats 4000000 in
set_option maxRecDepth 100000 in
theorem namesMoved_any (k : Nat) (r : RulesD) (a b : Nat) (ha : a ≤ 255) (hb0 : b ≤ 255) : FnC Tryd.prog 6 [rul k r, exI .u8 (a : Int), exI .u8 (b : Int)] [Tab] (fun p loc => p = exB true ∧ loc = []) := by
  refine FnC_enter Tryd.func6 rfl Tryd.ntmps6 rfl fun w0 F0 out => ?_
  have h0 := few14_any k r
  by_cases hf : r.few = true
  · rw [hf] at h0
    obtain ⟨hf1, hf2, hf3, hf4, hf5, hf6, hf7, hf8, hf9⟩ := few_facts hf
    by_cases hc : 0 < r.crits.length
    · (repeat' (first | (apply cut_at 5; refine Stop.out ?_) | refine WP_seq ?_ | refine WP_region ?_ | refine WPL_nil ?_ | (apply WPL_t; (first | exact WT_move rfl | exact WT_assign rfl | exact WT_pick (b := false) rfl (fun e => by cases e) (fun _ => rfl) | (apply g_load; first | exact WT_loada2 (k := 0) rfl rfl rfl) | (apply g_un; first | exact WT_not rfl)); exact rfl) | (apply WPL_gt; exact rfl; exact rfl; exact rfl; (first | (apply g_load; first | exact WT_load (k := 0) rfl rfl rfl rfl) | (apply g_fld; first | exact WT_field rfl rfl rfl) | (apply g_bin; first | exact WT_eql rfl rfl) | (apply g_call; first | exact WT_len rfl rfl)); exact rfl) | refine WP_skip ?_ | refine WP_cond_f rfl ?_ | (apply WPL_op0; exact rfl; first | (apply g_callf; first | (refine WO_callG (.dup 1 rfl rfl .nil) Tryd.func7 rfl sane14_any rfl ?_; rintro _ _ ⟨rfl, rfl⟩) | (refine WO_call Tryd.func8 rfl h0 rfl ?_; rintro _ _ ⟨rfl, rfl⟩)) | (apply g_box; refine WO_box rfl ?_; intro _)) | (refine WP_cond rfl (fun hb => ?_) (fun hb => ?_) <;> (repeat (first | replace hb := dec_t hb | replace hb := dec_f hb)) <;> (try (exfalso; first | omega)))))
      all_goals (try (exfalso; first | contradiction | omega))
      rename_i b3
      constructor
      refine WP_cutR 5 (fun s : Nat × Nat => ([(3, ex (.pointer (some ⟨b3, 0, none⟩))), (7, fpx s.1 [exI .i64 ((a % r.crits.length : Nat) : Int)]), (8, fpx s.2 [exI .i64 ((b % r.crits.length : Nat) : Int)])], [row b3 28 9 (rulesV k r), Tab])) (fun _ => True) ?_ fun s _ => ?_
      · skip
        (refine WP_drawl 14 rfl ?_)
        (apply WPY_pure 0 rfl (by decide +kernel) rfl (by repeat (first | exact np_ret)) guard_none; (first | exact WT_move rfl); exact rfl)
        (apply WPY_pure 1 rfl (by decide +kernel) rfl (by repeat (first | exact np_ret)) guard_none; (first | (apply g_conv; first | exact WT_conv rfl rfl rfl)); exact rfl)
        (apply WPY_pure 2 rfl (by decide +kernel) rfl (by repeat (first | exact np_ret)) guard_none; (first | (apply g_fld; first | exact WT_field rfl rfl rfl)); exact rfl)
        (apply WPY_take 3 rfl (by decide +kernel) rfl (by decide +kernel) (by repeat (first | exact np_ret)) guard_none; (first | (apply g_load; first | exact WT_load (k := 0) rfl rfl rfl rfl)); exact rfl)
        (apply WPY_pure 4 rfl (by decide +kernel) rfl (by repeat (first | exact np_ret)) guard_none; (first | (apply g_call; first | exact WT_len rfl rfl)); exact rfl)
        (apply WPY_pure 5 rfl (by decide +kernel) rfl (by repeat (first | exact np_ret)) guard_none; (first | (apply g_bin; first | exact WT_rem rfl rfl)); exact rfl)
        (apply WPY_pure 6 rfl (by decide +kernel) rfl (by repeat (first | exact np_ret)) guard_none; (first | exact WT_move rfl); exact rfl)
        (apply WPY_pure 7 rfl (by decide +kernel) rfl (by repeat (first | exact np_ret)) guard_none; (first | (apply g_conv; first | exact WT_conv rfl rfl rfl)); exact rfl)
        (apply WPY_pure 8 rfl (by decide +kernel) rfl (by repeat (first | exact np_ret)) guard_none; (first | (apply g_fld; first | exact WT_field rfl rfl rfl)); exact rfl)
        (refine WPY_three (H1 := fun _ => True) 9 12 13 (by decide +kernel) rfl guard_none (fun _ _ _ => trivial) rfl guard_none (fun _ _ h => h) rfl guard_none (fun _ _ h => h) ?_ ?_ ?_)
        ·
          ((apply WO_t (H := fun _ => True); (first | (apply g_load; first | exact WT_load (k := 0) rfl rfl rfl rfl)); exact rfl))
          (apply WPY_pure 10 rfl (by decide +kernel) rfl (by repeat (first | exact np_ret)) guard_none; (first | (apply g_call; first | exact WT_len rfl rfl)); exact rfl)
          (apply WPY_pure 11 rfl (by decide +kernel) rfl (by repeat (first | exact np_ret)) guard_none; (first | (apply g_bin; first | exact WT_rem rfl rfl)); exact rfl)
          (refine WPY_two 12 13 (by decide +kernel) rfl guard_none (fun _ _ h => h) rfl guard_none (fun _ _ h => h) ?_ ?_)
          ·
            (first | (apply g_alloc; refine WO_alloc ?_; intro _))
            (refine WPY_one 13 (by decide +kernel) rfl guard_none (fun _ _ h => h) ?_)
            (first | (apply g_alloc; refine WO_alloc ?_; intro _))
            (refine WPY_one (H' := feet []) 14 (by decide +kernel) rfl guard_none (fun h => absurd h (by decide)) ?_)
            (first | (apply g_store; first | refine WO_store (k := 1) (l0 := []) rfl rfl rfl ?_))
            (refine WPY_one (H' := feet []) 15 (by decide +kernel) rfl guard_none (fun h => absurd h (by decide)) ?_)
            (first | (apply g_store; first | refine WO_store (k := 0) (l0 := []) rfl rfl rfl ?_))
            refine WPY_done (by decide +kernel) ?_
            (first | exact cut_here (_, _) trivial (Leads.trans (Leads_fpx (k := 0) (t := 8) rfl rfl) (Leads.trans (Leads_fpx (k := 0) (t := 7) rfl rfl) (Leads_env (by repeat (first | exact sub_nil | refine sub_cons rfl ?_)) (List.Sublist.refl _)))) | exact cut_here (_, _) trivial (Leads.trans (Leads_fpx (k := 0) (t := 7) rfl rfl) (Leads.trans (Leads_fpx (k := 0) (t := 8) rfl rfl) (Leads_env (by repeat (first | exact sub_nil | refine sub_cons rfl ?_)) (List.Sublist.refl _)))))
          ·
            (first | (apply g_alloc; refine WO_alloc ?_; intro _))
            (refine WPY_one 12 (by decide +kernel) rfl guard_none (fun _ _ h => h) ?_)
            (first | (apply g_alloc; refine WO_alloc ?_; intro _))
            (refine WPY_one (H' := feet []) 14 (by decide +kernel) rfl guard_none (fun h => absurd h (by decide)) ?_)
            (first | (apply g_store; first | refine WO_store (k := 0) (l0 := []) rfl rfl rfl ?_))
            (refine WPY_one (H' := feet []) 15 (by decide +kernel) rfl guard_none (fun h => absurd h (by decide)) ?_)
            (first | (apply g_store; first | refine WO_store (k := 1) (l0 := []) rfl rfl rfl ?_))
            refine WPY_done (by decide +kernel) ?_
            (first | exact cut_here (_, _) trivial (Leads.trans (Leads_fpx (k := 0) (t := 8) rfl rfl) (Leads.trans (Leads_fpx (k := 0) (t := 7) rfl rfl) (Leads_env (by repeat (first | exact sub_nil | refine sub_cons rfl ?_)) (List.Sublist.refl _)))) | exact cut_here (_, _) trivial (Leads.trans (Leads_fpx (k := 0) (t := 7) rfl rfl) (Leads.trans (Leads_fpx (k := 0) (t := 8) rfl rfl) (Leads_env (by repeat (first | exact sub_nil | refine sub_cons rfl ?_)) (List.Sublist.refl _)))))
        ·
          (first | (apply g_alloc; refine WO_alloc ?_; intro _))
          (refine WPY_two (H1 := fun _ => True) 9 13 (by decide +kernel) rfl guard_none (fun _ _ _ => trivial) rfl guard_none (fun _ _ h => h) ?_ ?_)
          ·
            ((apply WO_t (H := fun _ => True); (first | (apply g_load; first | exact WT_load (k := 1) rfl rfl rfl rfl)); exact rfl))
            (apply WPY_pure 10 rfl (by decide +kernel) rfl (by repeat (first | exact np_ret)) guard_none; (first | (apply g_call; first | exact WT_len rfl rfl)); exact rfl)
            (apply WPY_pure 11 rfl (by decide +kernel) rfl (by repeat (first | exact np_ret)) guard_none; (first | (apply g_bin; first | exact WT_rem rfl rfl)); exact rfl)
            (refine WPY_one 13 (by decide +kernel) rfl guard_none (fun _ _ h => h) ?_)
            (first | (apply g_alloc; refine WO_alloc ?_; intro _))
            (refine WPY_one (H' := feet []) 14 (by decide +kernel) rfl guard_none (fun h => absurd h (by decide)) ?_)
            (first | (apply g_store; first | refine WO_store (k := 1) (l0 := []) rfl rfl rfl ?_))
            (refine WPY_one (H' := feet []) 15 (by decide +kernel) rfl guard_none (fun h => absurd h (by decide)) ?_)
            (first | (apply g_store; first | refine WO_store (k := 0) (l0 := []) rfl rfl rfl ?_))
            refine WPY_done (by decide +kernel) ?_
            (first | exact cut_here (_, _) trivial (Leads.trans (Leads_fpx (k := 0) (t := 8) rfl rfl) (Leads.trans (Leads_fpx (k := 0) (t := 7) rfl rfl) (Leads_env (by repeat (first | exact sub_nil | refine sub_cons rfl ?_)) (List.Sublist.refl _)))) | exact cut_here (_, _) trivial (Leads.trans (Leads_fpx (k := 0) (t := 7) rfl rfl) (Leads.trans (Leads_fpx (k := 0) (t := 8) rfl rfl) (Leads_env (by repeat (first | exact sub_nil | refine sub_cons rfl ?_)) (List.Sublist.refl _)))))
          ·
            (first | (apply g_alloc; refine WO_alloc ?_; intro _))
            (refine WPY_two (H1 := fun _ => True) (H2 := feet []) 9 14 (by decide +kernel) rfl guard_none (fun _ _ _ => trivial) rfl guard_none (fun h => absurd h (by decide)) ?_ ?_)
            ·
              ((apply WO_t (H := fun _ => True); (first | (apply g_load; first | exact WT_load (k := 2) rfl rfl rfl rfl)); exact rfl))
              (apply WPY_pure 10 rfl (by decide +kernel) rfl (by repeat (first | exact np_ret)) guard_none; (first | (apply g_call; first | exact WT_len rfl rfl)); exact rfl)
              (apply WPY_pure 11 rfl (by decide +kernel) rfl (by repeat (first | exact np_ret)) guard_none; (first | (apply g_bin; first | exact WT_rem rfl rfl)); exact rfl)
              (refine WPY_one (H' := feet []) 14 (by decide +kernel) rfl guard_none (fun h => absurd h (by decide)) ?_)
              (first | (apply g_store; first | refine WO_store (k := 1) (l0 := []) rfl rfl rfl ?_))
              (refine WPY_one (H' := feet []) 15 (by decide +kernel) rfl guard_none (fun h => absurd h (by decide)) ?_)
              (first | (apply g_store; first | refine WO_store (k := 0) (l0 := []) rfl rfl rfl ?_))
              refine WPY_done (by decide +kernel) ?_
              (first | exact cut_here (_, _) trivial (Leads.trans (Leads_fpx (k := 0) (t := 8) rfl rfl) (Leads.trans (Leads_fpx (k := 0) (t := 7) rfl rfl) (Leads_env (by repeat (first | exact sub_nil | refine sub_cons rfl ?_)) (List.Sublist.refl _)))) | exact cut_here (_, _) trivial (Leads.trans (Leads_fpx (k := 0) (t := 7) rfl rfl) (Leads.trans (Leads_fpx (k := 0) (t := 8) rfl rfl) (Leads_env (by repeat (first | exact sub_nil | refine sub_cons rfl ?_)) (List.Sublist.refl _)))))
            ·
              (first | (apply g_store; first | refine WO_store (k := 1) (l0 := []) rfl rfl rfl ?_))
              (refine WPY_one (H' := fun _ => True) 9 (by decide +kernel) rfl guard_none (fun _ _ _ => trivial) ?_)
              ((apply WO_t (H := fun _ => True); (first | (apply g_load; first | exact WT_load (k := 2) rfl rfl rfl rfl)); exact rfl))
              (apply WPY_pure 10 rfl (by decide +kernel) rfl (by repeat (first | exact np_ret)) guard_none; (first | (apply g_call; first | exact WT_len rfl rfl)); exact rfl)
              (apply WPY_pure 11 rfl (by decide +kernel) rfl (by repeat (first | exact np_ret)) guard_none; (first | (apply g_bin; first | exact WT_rem rfl rfl)); exact rfl)
              (refine WPY_one (H' := feet []) 15 (by decide +kernel) rfl guard_none (fun h => absurd h (by decide)) ?_)
              (first | (apply g_store; first | refine WO_store (k := 0) (l0 := []) rfl rfl rfl ?_))
              refine WPY_done (by decide +kernel) ?_
              (first | exact cut_here (_, _) trivial (Leads.trans (Leads_fpx (k := 0) (t := 8) rfl rfl) (Leads.trans (Leads_fpx (k := 0) (t := 7) rfl rfl) (Leads_env (by repeat (first | exact sub_nil | refine sub_cons rfl ?_)) (List.Sublist.refl _)))) | exact cut_here (_, _) trivial (Leads.trans (Leads_fpx (k := 0) (t := 7) rfl rfl) (Leads.trans (Leads_fpx (k := 0) (t := 8) rfl rfl) (Leads_env (by repeat (first | exact sub_nil | refine sub_cons rfl ?_)) (List.Sublist.refl _)))))
        ·
          (first | (apply g_alloc; refine WO_alloc ?_; intro _))
          (refine WPY_two (H1 := fun _ => True) 9 12 (by decide +kernel) rfl guard_none (fun _ _ _ => trivial) rfl guard_none (fun _ _ h => h) ?_ ?_)
          ·
            ((apply WO_t (H := fun _ => True); (first | (apply g_load; first | exact WT_load (k := 1) rfl rfl rfl rfl)); exact rfl))
            (apply WPY_pure 10 rfl (by decide +kernel) rfl (by repeat (first | exact np_ret)) guard_none; (first | (apply g_call; first | exact WT_len rfl rfl)); exact rfl)
            (apply WPY_pure 11 rfl (by decide +kernel) rfl (by repeat (first | exact np_ret)) guard_none; (first | (apply g_bin; first | exact WT_rem rfl rfl)); exact rfl)
            (refine WPY_one 12 (by decide +kernel) rfl guard_none (fun _ _ h => h) ?_)
            (first | (apply g_alloc; refine WO_alloc ?_; intro _))
            (refine WPY_one (H' := feet []) 14 (by decide +kernel) rfl guard_none (fun h => absurd h (by decide)) ?_)
            (first | (apply g_store; first | refine WO_store (k := 0) (l0 := []) rfl rfl rfl ?_))
            (refine WPY_one (H' := feet []) 15 (by decide +kernel) rfl guard_none (fun h => absurd h (by decide)) ?_)
            (first | (apply g_store; first | refine WO_store (k := 1) (l0 := []) rfl rfl rfl ?_))
            refine WPY_done (by decide +kernel) ?_
            (first | exact cut_here (_, _) trivial (Leads.trans (Leads_fpx (k := 0) (t := 8) rfl rfl) (Leads.trans (Leads_fpx (k := 0) (t := 7) rfl rfl) (Leads_env (by repeat (first | exact sub_nil | refine sub_cons rfl ?_)) (List.Sublist.refl _)))) | exact cut_here (_, _) trivial (Leads.trans (Leads_fpx (k := 0) (t := 7) rfl rfl) (Leads.trans (Leads_fpx (k := 0) (t := 8) rfl rfl) (Leads_env (by repeat (first | exact sub_nil | refine sub_cons rfl ?_)) (List.Sublist.refl _)))))
          ·
            (first | (apply g_alloc; refine WO_alloc ?_; intro _))
            (refine WPY_two (H1 := fun _ => True) (H2 := feet []) 9 14 (by decide +kernel) rfl guard_none (fun _ _ _ => trivial) rfl guard_none (fun h => absurd h (by decide)) ?_ ?_)
            ·
              ((apply WO_t (H := fun _ => True); (first | (apply g_load; first | exact WT_load (k := 2) rfl rfl rfl rfl)); exact rfl))
              (apply WPY_pure 10 rfl (by decide +kernel) rfl (by repeat (first | exact np_ret)) guard_none; (first | (apply g_call; first | exact WT_len rfl rfl)); exact rfl)
              (apply WPY_pure 11 rfl (by decide +kernel) rfl (by repeat (first | exact np_ret)) guard_none; (first | (apply g_bin; first | exact WT_rem rfl rfl)); exact rfl)
              (refine WPY_one (H' := feet []) 14 (by decide +kernel) rfl guard_none (fun h => absurd h (by decide)) ?_)
              (first | (apply g_store; first | refine WO_store (k := 0) (l0 := []) rfl rfl rfl ?_))
              (refine WPY_one (H' := feet []) 15 (by decide +kernel) rfl guard_none (fun h => absurd h (by decide)) ?_)
              (first | (apply g_store; first | refine WO_store (k := 1) (l0 := []) rfl rfl rfl ?_))
              refine WPY_done (by decide +kernel) ?_
              (first | exact cut_here (_, _) trivial (Leads.trans (Leads_fpx (k := 0) (t := 8) rfl rfl) (Leads.trans (Leads_fpx (k := 0) (t := 7) rfl rfl) (Leads_env (by repeat (first | exact sub_nil | refine sub_cons rfl ?_)) (List.Sublist.refl _)))) | exact cut_here (_, _) trivial (Leads.trans (Leads_fpx (k := 0) (t := 7) rfl rfl) (Leads.trans (Leads_fpx (k := 0) (t := 8) rfl rfl) (Leads_env (by repeat (first | exact sub_nil | refine sub_cons rfl ?_)) (List.Sublist.refl _)))))
            ·
              (first | (apply g_store; first | refine WO_store (k := 0) (l0 := []) rfl rfl rfl ?_))
              (refine WPY_one (H' := fun _ => True) 9 (by decide +kernel) rfl guard_none (fun _ _ _ => trivial) ?_)
              ((apply WO_t (H := fun _ => True); (first | (apply g_load; first | exact WT_load (k := 2) rfl rfl rfl rfl)); exact rfl))
              (apply WPY_pure 10 rfl (by decide +kernel) rfl (by repeat (first | exact np_ret)) guard_none; (first | (apply g_call; first | exact WT_len rfl rfl)); exact rfl)
              (apply WPY_pure 11 rfl (by decide +kernel) rfl (by repeat (first | exact np_ret)) guard_none; (first | (apply g_bin; first | exact WT_rem rfl rfl)); exact rfl)
              (refine WPY_one (H' := feet []) 15 (by decide +kernel) rfl guard_none (fun h => absurd h (by decide)) ?_)
              (first | (apply g_store; first | refine WO_store (k := 1) (l0 := []) rfl rfl rfl ?_))
              refine WPY_done (by decide +kernel) ?_
              (first | exact cut_here (_, _) trivial (Leads.trans (Leads_fpx (k := 0) (t := 8) rfl rfl) (Leads.trans (Leads_fpx (k := 0) (t := 7) rfl rfl) (Leads_env (by repeat (first | exact sub_nil | refine sub_cons rfl ?_)) (List.Sublist.refl _)))) | exact cut_here (_, _) trivial (Leads.trans (Leads_fpx (k := 0) (t := 7) rfl rfl) (Leads.trans (Leads_fpx (k := 0) (t := 8) rfl rfl) (Leads_env (by repeat (first | exact sub_nil | refine sub_cons rfl ?_)) (List.Sublist.refl _)))))
      obtain ⟨b7, b8⟩ := s
      simp only
      have hi := Nat.mod_lt a hc
      have hj := Nat.mod_lt b hc
      generalize a % r.crits.length = i at hi ⊢
      generalize b % r.crits.length = j at hj ⊢
      (repeat' (first | (apply cut_at 8; refine Stop.out ?_) | (apply at_store; refine WPL_vv (k := 0) rfl (by omega) ?_; intro _ _ hv; subst hv) | refine WP_seq ?_ | refine WP_region ?_ | refine WPL_nil ?_ | (apply WPL_t; (first | (apply g_load; first | exact WT_load (k := 2) rfl rfl rfl rfl | exact WT_loada2 (k := 0) rfl rfl rfl) | (apply g_fld; first | exact WT_field rfl rfl rfl)); exact rfl) | (apply WPL_op0; exact rfl; first | (apply g_alloc; refine WO_alloc ?_; intro _) | (apply g_store; first | refine WO_store (k := 0) (l0 := []) rfl rfl rfl ?_ | refine WO_store (k := 1) (l0 := []) rfl rfl rfl ?_) | (apply g_append; (first | (refine WO_append_row (k := 0) (l0 := []) rfl rfl rfl rfl (by first | exact Src_isl rfl) rfl ?_)); intro _) | (apply g_bslice; (first | refine WO_bslice0 rfl ?_); intro _))))
      rename_i b9 bz bc cc
      constructor
      rw [Nat.zero_add r.crits.length]
      refine WP_vec3 (k := 0) rfl (by omega) fun bc' k7 hv hnc hcm => ?_
      cases hv
      refine WP_cutR 8 (fun _ : Unit => ([(3, ex (.pointer (some ⟨b3, 0, none⟩))), (7, fpx b7 [exI .i64 (i : Int)]), (8, fpx b8 [exI .i64 (j : Int)]), (9, ex (.pointer (some ⟨b9, 0, none⟩)))], [row bc 55 (cc * 7) ((swp r.crits i j hi hj).flatMap critV), row b9 28 9 [exT r.name, ex (.slice (some ⟨bc, 0, none⟩) r.crits.length cc), isl eItem r.bonus, isl eItem r.malus, isl eTie r.ties, isl (eRound k) r.rounds, isl eI r.prizes, isl eI r.points, exI .i64 r.best], row b3 28 9 (rulesV k r), Tab])) (fun _ => True) ?_ fun _ _ => ?_
      · refine WP_leads (env' := [(3, ex (.pointer (some ⟨b3, 0, none⟩))), (7, fpx b7 [exI .i64 (i : Int)]), (8, fpx b8 [exI .i64 (j : Int)]), (9, ex (.pointer (some ⟨b9, 0, none⟩)))]) (loc' := [row bc 55 (cc * 7) (r.crits.flatMap critV), row b9 28 9 [exT r.name, ex (.slice (some ⟨bc, 0, none⟩) r.crits.length cc), isl eItem r.bonus, isl eItem r.malus, isl eTie r.ties, isl (eRound k) r.rounds, isl eI r.prizes, isl eI r.points, exI .i64 r.best], row b3 28 9 (rulesV k r), Tab]) (Leads_env (by repeat (first | exact sub_nil | refine sub_cons rfl ?_)) (List.Sublist.refl _)) ?_
        (refine WP_draw ([row b9 28 9 [exT r.name, ex (.slice (some ⟨bc, 0, none⟩) r.crits.length cc), isl eItem r.bonus, isl eItem r.malus, isl eTie r.ties, isl (eRound k) r.rounds, isl eI r.prizes, isl eI r.points, exI .i64 r.best]]) 20 rfl ?_)
        all_goals ((apply WPY_pure 0 rfl (by decide +kernel) rfl (by repeat (first | exact np_ret)) guard_none; (first | (apply g_fld; first | exact WT_field rfl rfl rfl)); exact rfl))
        all_goals ((apply WPY_take 1 rfl (by decide +kernel) rfl (by decide +kernel) (by repeat (first | exact np_ret)) guard_none; (first | (apply g_load; first | exact WT_load (k := 1) rfl rfl rfl rfl)); exact rfl))
        all_goals ((apply WPY_take 2 rfl (by decide +kernel) rfl (by decide +kernel) (by repeat (first | exact np_ret)) guard_none; (first | (apply g_load; first | exact WT_loadx rfl rfl)); exact rfl))
        all_goals ((apply WPY_pure 3 rfl (by decide +kernel) rfl (by repeat (first | exact np_ret)) guard_none; (first | (apply g_fld; first | exact WT_field rfl rfl rfl)); exact rfl))
        all_goals ((apply WPY_take 4 rfl (by decide +kernel) rfl (by decide +kernel) (by repeat (first | exact np_ret)) guard_none; (first | (apply g_load; first | exact WT_load (k := 1) rfl rfl rfl rfl)); exact rfl))
        all_goals ((apply WPY_take 5 rfl (by decide +kernel) rfl (by decide +kernel) (by repeat (first | exact np_ret)) guard_none; (first | (apply g_load; first | exact WT_loadx rfl rfl)); exact rfl))
        all_goals ((apply WPY_pure 6 rfl (by decide +kernel) rfl (by repeat (first | exact np_ret)) guard_none; (first | (apply g_fld; first | exact WT_field rfl rfl rfl)); exact rfl))
        all_goals ((apply WPY_take 7 rfl (by decide +kernel) rfl (by decide +kernel) (by repeat (first | exact np_ret)) guard_none; (first | (apply g_load; first | exact WT_load (k := 1) rfl rfl rfl rfl)); exact rfl))
        all_goals ((apply WPY_take 8 rfl (by decide +kernel) rfl (by decide +kernel) (by repeat (first | exact np_ret)) guard_none; (first | (apply g_load; first | exact WT_loadx rfl rfl)); exact rfl))
        all_goals ((apply WPY_pure 9 rfl (by decide +kernel) rfl (by repeat (first | exact np_ret)) guard_none; (first | (apply g_index; first | exact WT_indexo rfl rfl rfl)); exact rfl))
        all_goals ((apply WPY_pure 11 rfl (by decide +kernel) rfl (by repeat (first | exact np_ret)) guard_none; (first | (apply g_fld; first | exact WT_field rfl rfl rfl)); exact rfl))
        all_goals ((apply WPY_take 12 rfl (by decide +kernel) rfl (by decide +kernel) (by repeat (first | exact np_ret)) guard_none; (first | (apply g_load; first | exact WT_load (k := 1) rfl rfl rfl rfl)); exact rfl))
        all_goals ((apply WPY_take 13 rfl (by decide +kernel) rfl (by decide +kernel) (by repeat (first | exact np_ret)) guard_none; (first | (apply g_load; first | exact WT_loadx rfl rfl)); exact rfl))
        all_goals ((apply WPY_pure 14 rfl (by decide +kernel) rfl (by repeat (first | exact np_ret)) guard_none; (first | (apply g_index; first | exact WT_indexo rfl rfl rfl)); exact rfl))
        all_goals (refine WPY_two 10 15 (by decide +kernel) rfl guard_none (fun _ _ _ => trivial) rfl guard_none (fun _ _ _ => trivial) ?_ ?_; (apply WO_t (H := fun _ => True); (first | (apply g_load; first | exact WT_loadE (k := 0) rfl rfl rfl)); exact rfl); (apply WPY_one 15; exact (by decide +kernel); exact rfl; exact guard_none; exact (fun _ _ _ => trivial); (apply WO_t (H := fun _ => True); (first | (apply g_load; first | exact WT_loadE (k := 0) rfl rfl rfl)); exact rfl)); rotate_left; (apply WO_t (H := fun _ => True); (first | (apply g_load; first | exact WT_loadE (k := 0) rfl rfl rfl)); exact rfl); (apply WPY_one 10; exact (by decide +kernel); exact rfl; exact guard_none; exact (fun _ _ _ => trivial); (apply WO_t (H := fun _ => True); (first | (apply g_load; first | exact WT_loadE (k := 0) rfl rfl rfl)); exact rfl)))
        all_goals ((apply WPY_pure 16 rfl (by decide +kernel) rfl (by repeat (first | exact np_ret)) guard_none; (first | (apply g_index; first | exact WT_indexo rfl rfl rfl)); exact rfl))
        all_goals (first | (apply WPY_one 17; exact (by decide +kernel); exact rfl; exact guard_none; exact (fun _ _ h => h); first | (apply g_store; refine WO_storeE (k := 0) (hH := (by repeat (first | exact List.nil_sublist _ | apply List.Sublist.cons_cons))) rfl rfl rfl ?_)))
        all_goals ((apply WPY_pure 18 rfl (by decide +kernel) rfl (by repeat (first | exact np_ret)) guard_none; (first | (apply g_index; first | exact WT_indexo rfl rfl rfl)); exact rfl))
        all_goals (first | (apply WPY_one 19; exact (by decide +kernel); exact rfl; exact guard_none; exact (fun _ _ h => h); first | (apply g_store; refine WO_storeE (k := 0) (hH := (by repeat (first | exact List.nil_sublist _ | apply List.Sublist.cons_cons))) rfl rfl rfl ?_)))
        all_goals (refine WPY_done (by decide +kernel) ?_)
        all_goals exact cut_here () trivial (Leads_env (by repeat (first | exact sub_nil | refine sub_cons rfl ?_)) (List.Sublist.refl _))
      refine WP_leads (Leads_row_vec (k := 0) (sz := 7) (n := r.crits.length) (c := cc) rfl rfl (by rw [length_flat (fs := critV) (s := 7) (fun _ => rfl), swp_len]) (by decide) hcm Leads.refl) ?_
      refine WP_leads (Leads_fcell (j := 0) (k := 0) (i := 1) (E := eCrit) (fs := critV) (swp r.crits i j hi hj) rfl rfl rfl (swp_len _ _ _ _ _) rfl rfl (hby := by show r.crits.length * 64 ≤ _; omega)) ?_
      obtain ⟨hs1, hs2, hs3⟩ := RulesD.swap_resolve freeF r i j hi hj
      have h1 := nresolve_any k r hf
      have h2 : FnC Tryd.prog 9 [agg [exT r.name, isl eCrit (swp r.crits i j hi hj), isl eItem r.bonus, isl eItem r.malus, isl eTie r.ties, isl (eRound k) r.rounds, isl eI r.prizes, isl eI r.points, exI .i64 r.best]] [Tab] (fun p loc => p = tup [rul k ((r.swap i j hi hj).resolve freeF).1, exI .i64 ((r.swap i j hi hj).resolve freeF).2] ∧ loc = []) := nresolve_any k (r.swap i j hi hj) (hs2.trans hf)
      rw [hs1] at h2
      clear hs1 hs2
      by_cases he : (r.resolve freeF).2 = 0
      · have hX := (RulesD.like_resolved r).all freeF
        rw [hs3 he] at h2
        rw [resolve_pair he] at h1
        rw [he] at h2
        have hfX := few_facts (hX.2.trans hf)
        clear hX he hs3 hf h0 hf1 hf2 hf3 hf4 hf5 hf6 hf7 hf8 hf9
        have h4 := same14_any k k ((r.resolved).moved (swp r.crits i j hi hj) i j) ((r.resolved).moved (swp r.crits i j hi hj) i j)
        rw [decide_eq_true rfl] at h4
        generalize hCS : swp r.crits i j hi hj = CS at h2 h4 ⊢
        clear hCS
        generalize r.resolved = X at h1 h2 h4 hfX ⊢
        obtain ⟨hf1, hf2, hf3, hf4, hf5, hf6, hf7, hf8, hf9⟩ := hfX
        (repeat' (first | (apply cut_at 15; refine Stop.out ?_) | refine WP_seq ?_ | refine WP_region ?_ | refine WPL_nil ?_ | (apply WPL_t; (first | exact WT_move rfl | exact WT_assign rfl | exact WT_extract rfl rfl | (apply g_load; first | exact WT_loada2 (k := 1) rfl rfl rfl) | (apply g_bin; first | exact WT_neq rfl rfl)); exact rfl) | refine WP_skip ?_ | refine WP_cond_f rfl ?_ | (apply WPL_op0; exact rfl; first | (apply g_callf; first | (refine WO_callG (.dup 2 rfl rfl .nil) Tryd.func9 rfl h1 rfl ?_; rintro _ _ ⟨rfl, rfl⟩) | (refine WO_callG (.dup 3 rfl rfl .nil) Tryd.func9 rfl h2 rfl ?_; rintro _ _ ⟨rfl, rfl⟩)) | (apply g_alloc; refine WO_alloc ?_; intro _) | (apply g_store; first | refine WO_store (k := 0) (l0 := []) rfl rfl rfl ?_))))
        all_goals (try (exfalso; first | contradiction | omega))
        rename_i b10 b12
        constructor
        refine WP_seq ?_
        (repeat' (first | (apply WPL_t; (apply g_mkfn; exact WT_mkclos (ps := [_, _]) rfl); exact rfl) | (apply cut_at 16; refine Stop.out ?_) | refine WP_region ?_ | refine WPL_nil ?_ | (apply WPL_op0; exact rfl; first | (apply g_alloc; refine WO_alloc ?_; intro _) | (apply g_store; first | refine WO_store (k := 0) (l0 := []) rfl rfl rfl ?_))))
        rename_i b14
        constructor
        refine WP_leads (Leads_fpx (k := 0) (t := 14) rfl rfl) ?_
        (repeat' (first | (apply WPL_t; (apply g_mkfn; exact WT_mkclos (ps := [_, _]) rfl); exact rfl) | (apply cut_at 18; refine Stop.out ?_) | refine WP_seq ?_ | refine WP_region ?_ | refine WPL_nil ?_ | (apply WPL_op0; exact rfl; first | (apply g_alloc; refine WO_alloc ?_; intro _) | (apply g_store; first | refine WO_store (k := 0) (l0 := []) rfl rfl rfl ?_))))
        rename_i b15
        constructor
        refine WP_leads (Leads_fpx (k := 0) (t := 15) rfl rfl) ?_
        (repeat' (first | refine WP_seq ?_ | refine WP_region ?_ | refine WPL_nil ?_ | (apply WPL_t; (first | exact WT_move rfl | (apply g_load; first | exact WT_load (k := 2) rfl rfl rfl rfl | exact WT_load (k := 3) rfl rfl rfl rfl | exact WT_loada2 (k := 1) rfl rfl rfl) | (apply g_fld; first | exact WT_field rfl rfl rfl) | (apply g_call; first | exact WT_len rfl rfl)); exact rfl) | refine WP_block ?_ | (apply WPL_op0; exact rfl; first | (apply g_alloc; refine WO_alloc ?_; intro _) | (apply g_store; first | refine WO_store (k := 0) (l0 := []) rfl rfl rfl ?_))))
        rename_i b16
        refine WP_loop (fun s : Nat × Value => ([(9, ex (.pointer (some ⟨b9, 0, none⟩))), (10, ex (.pointer (some ⟨b10, 0, none⟩))), (12, ex (.pointer (some ⟨b12, 0, none⟩))), (14, fpx b14 [clos (.func 19) [fpx b7 [exI .i64 (i : Int)], fpx b8 [exI .i64 (j : Int)]]]), (15, fpx b15 [clos (.func 20) [fpx b14 [clos (.func 19) [fpx b7 [exI .i64 (i : Int)], fpx b8 [exI .i64 (j : Int)]]], ex (.pointer (some ⟨b15, 0, none⟩))]]), (16, ex (.pointer (some ⟨b16, 0, none⟩))), (95, isl eTie X.ties), (96, exI .i64 (X.ties.length : Int)), (97, exI .i64 (s.1 : Int))], vec s.2 41 2 s.1 (((X.ties.take s.1).map (RulesD.tieMov i j)).flatMap tieV) :: row b16 28 9 [exT X.name, isl eCrit CS, isl eItem X.bonus, isl eItem X.malus, ex s.2, ex (.slice none 0 0), isl eI X.prizes, isl eI X.points, exI .i64 X.best] :: [row b12 28 9 (rulesV k (X.moved CS i j)), row b10 28 9 (rulesV k X)])) (fun s => s.1 ≤ X.ties.length) (fun s => X.ties.length - s.1) (0, .slice none 0 0) ?_ (Nat.zero_le _) fun s hs => ?_
        · refine Leads_nilv 41 2 (Leads_env (by repeat (first | exact sub_nil | refine sub_cons rfl ?_)) ?_)
          exact .cons_cons _ (.cons_cons _ (.cons_cons _ (.cons_cons _ (List.nil_sublist _))))
        obtain ⟨p, v⟩ := s
        simp only at hs ⊢
        by_cases hlt : p < X.ties.length
        · have hkl := hf8 _ (List.getElem_mem hlt)
          (repeat' (first | refine WP_seq ?_ | refine WP_region ?_ | refine WPL_nil ?_ | (apply WPL_t; (first | exact WT_move rfl | exact WT_assign rfl | (apply g_load; first | exact WT_load (k := 0) rfl rfl rfl rfl | exact WT_loadfa rfl rfl) | (apply g_fld; first | exact WT_field rfl rfl rfl) | (apply g_bin; first | exact WT_lss rfl rfl) | (apply g_index; first | exact WT_index rfl rfl rfl) | (apply g_call; first | exact WT_len rfl rfl)); exact rfl) | refine WP_block ?_ | refine WP_skip ?_ | (apply WPL_op0; exact rfl; first | (apply g_alloc; refine WO_alloc ?_; intro _) | (apply g_store; first | refine WO_store (k := 0) (l0 := []) rfl rfl rfl ?_)) | (refine WP_cond rfl (fun hb => ?_) (fun hb => ?_) <;> (repeat (first | replace hb := dec_t hb | replace hb := dec_f hb)) <;> (try (exfalso; first | omega)))))
          all_goals (try (exfalso; omega))
          rename_i b18
          generalize hT : X.ties[p] = T at hkl ⊢
          refine WP_loop (fun s : Nat × Value => ([(9, ex (.pointer (some ⟨b9, 0, none⟩))), (10, ex (.pointer (some ⟨b10, 0, none⟩))), (12, ex (.pointer (some ⟨b12, 0, none⟩))), (14, fpx b14 [clos (.func 19) [fpx b7 [exI .i64 (i : Int)], fpx b8 [exI .i64 (j : Int)]]]), (15, fpx b15 [clos (.func 20) [fpx b14 [clos (.func 19) [fpx b7 [exI .i64 (i : Int)], fpx b8 [exI .i64 (j : Int)]]], ex (.pointer (some ⟨b15, 0, none⟩))]]), (16, ex (.pointer (some ⟨b16, 0, none⟩))), (95, isl eTie X.ties), (96, exI .i64 (X.ties.length : Int)), (97, exI .i64 (p : Int)), (18, ex (.pointer (some ⟨b18, 0, none⟩))), (19, ex s.2), (102, isl eKey T.keys), (103, exI .i64 (T.keys.length : Int)), (104, exI .i64 (s.1 : Int))], vec s.2 43 3 s.1 (((T.keys.take s.1).map (keyMov i j)).flatMap keyV) :: row b18 41 2 [exT T.name, isl eKey T.keys] :: vec v 41 2 p (((X.ties.take p).map (RulesD.tieMov i j)).flatMap tieV) :: row b16 28 9 [exT X.name, isl eCrit CS, isl eItem X.bonus, isl eItem X.malus, ex v, ex (.slice none 0 0), isl eI X.prizes, isl eI X.points, exI .i64 X.best] :: [row b12 28 9 (rulesV k (X.moved CS i j)), row b10 28 9 (rulesV k X)])) (fun s => s.1 ≤ T.keys.length) (fun s => T.keys.length - s.1) (0, .slice none 0 0) ?_ (Nat.zero_le _) fun s hq => ?_
          · exact Leads_nilv 43 3 (Leads_env (by repeat (first | exact sub_nil | refine sub_cons rfl ?_)) (List.Sublist.refl _))
          obtain ⟨q, v2⟩ := s
          simp only at hq ⊢
          by_cases hlq : q < T.keys.length
          · (repeat' (first | (apply cuts_at 27; refine Stop.out ?_) | refine WP_seq ?_ | refine WP_region ?_ | refine WPL_nil ?_ | (apply WPL_t; (first | (apply g_load; first | exact WT_loadfa rfl rfl) | (apply g_bin; first | exact WT_lss rfl rfl) | (apply g_index; first | exact WT_index rfl rfl rfl)); exact rfl) | refine WP_block ?_ | refine WP_skip ?_ | (apply WPL_op0; exact rfl; first | (apply g_alloc; refine WO_alloc ?_; intro _) | (apply g_store; first | refine WO_store (k := 0) (l0 := []) rfl rfl rfl ?_)) | (refine WP_cond rfl (fun hb => ?_) (fun hb => ?_) <;> (repeat (first | replace hb := dec_t hb | replace hb := dec_f hb)) <;> (try (exfalso; first | omega)))))
            all_goals (try (exfalso; omega))
            rename_i b21
            generalize hK : T.keys[q] = K
            refine ⟨WP_cut (fun _ : Unit => ([(9, ex (.pointer (some ⟨b9, 0, none⟩))), (10, ex (.pointer (some ⟨b10, 0, none⟩))), (12, ex (.pointer (some ⟨b12, 0, none⟩))), (14, fpx b14 [clos (.func 19) [fpx b7 [exI .i64 (i : Int)], fpx b8 [exI .i64 (j : Int)]]]), (15, fpx b15 [clos (.func 20) [fpx b14 [clos (.func 19) [fpx b7 [exI .i64 (i : Int)], fpx b8 [exI .i64 (j : Int)]]], ex (.pointer (some ⟨b15, 0, none⟩))]]), (16, ex (.pointer (some ⟨b16, 0, none⟩))), (95, isl eTie X.ties), (96, exI .i64 (X.ties.length : Int)), (97, exI .i64 (p : Int)), (18, ex (.pointer (some ⟨b18, 0, none⟩))), (19, ex v2), (102, isl eKey T.keys), (103, exI .i64 (T.keys.length : Int)), (104, exI .i64 (q : Int)), (21, ex (.pointer (some ⟨b21, 0, none⟩)))], row b21 43 3 (keyV (keyMov i j K)) :: vec v2 43 3 q (((T.keys.take q).map (keyMov i j)).flatMap keyV) :: row b18 41 2 [exT T.name, isl eKey T.keys] :: vec v 41 2 p (((X.ties.take p).map (RulesD.tieMov i j)).flatMap tieV) :: row b16 28 9 [exT X.name, isl eCrit CS, isl eItem X.bonus, isl eItem X.malus, ex v, ex (.slice none 0 0), isl eI X.prizes, isl eI X.points, exI .i64 X.best] :: [row b12 28 9 (rulesV k (X.moved CS i j)), row b10 28 9 (rulesV k X)])) (fun _ => True) ?_ fun _ _ => ?_⟩
            · refine WP_leads (env' := [(9, ex (.pointer (some ⟨b9, 0, none⟩))), (10, ex (.pointer (some ⟨b10, 0, none⟩))), (12, ex (.pointer (some ⟨b12, 0, none⟩))), (14, fpx b14 [clos (.func 19) [fpx b7 [exI .i64 (i : Int)], fpx b8 [exI .i64 (j : Int)]]]), (15, fpx b15 [clos (.func 20) [fpx b14 [clos (.func 19) [fpx b7 [exI .i64 (i : Int)], fpx b8 [exI .i64 (j : Int)]]], ex (.pointer (some ⟨b15, 0, none⟩))]]), (16, ex (.pointer (some ⟨b16, 0, none⟩))), (95, isl eTie X.ties), (96, exI .i64 (X.ties.length : Int)), (97, exI .i64 (p : Int)), (18, ex (.pointer (some ⟨b18, 0, none⟩))), (19, ex v2), (102, isl eKey T.keys), (103, exI .i64 (T.keys.length : Int)), (104, exI .i64 (q : Int)), (21, ex (.pointer (some ⟨b21, 0, none⟩)))]) (loc' := row b21 43 3 [exI .i64 K.kind, exT K.name, exI .i64 K.n] :: vec v2 43 3 q (((T.keys.take q).map (keyMov i j)).flatMap keyV) :: row b18 41 2 [exT T.name, isl eKey T.keys] :: vec v 41 2 p (((X.ties.take p).map (RulesD.tieMov i j)).flatMap tieV) :: row b16 28 9 [exT X.name, isl eCrit CS, isl eItem X.bonus, isl eItem X.malus, ex v, ex (.slice none 0 0), isl eI X.prizes, isl eI X.points, exI .i64 X.best] :: [row b12 28 9 (rulesV k (X.moved CS i j)), row b10 28 9 (rulesV k X)]) (by rw [← hK]; exact Leads_env (by repeat (first | exact sub_nil | refine sub_cons rfl ?_)) (List.Sublist.refl _)) ?_
              have hV : keyV (keyMov i j K) = [exI .i64 K.kind, exT K.name, exI .i64 (if K.kind = 1 then mvI i j K.n else K.n)] := rfl
              rw [hV]
              clear hV hK
              by_cases h1 : K.kind = 1
              · rw [if_pos h1]
                (repeat' (first | refine WP_seq ?_ | refine WP_region ?_ | refine WPL_nil ?_ | (apply WPL_t; (first | (apply g_load; first | exact WT_loadx rfl rfl | exact WT_load (k := 0) rfl rfl rfl rfl) | (apply g_fld; first | exact WT_field rfl rfl rfl) | (apply g_bin; first | exact WT_eql rfl rfl)); exact rfl) | (apply WPL_op0; exact rfl; first | (apply g_callf; first | (refine WO_callC (args := [_]) rfl (.keep (.keep .nil)) .nil Tryd.func19 rfl (move_any i j b7 b8 _) rfl ?_; rintro _ _ ⟨rfl, rfl⟩)) | (apply g_store; first | refine WO_store (k := 0) (l0 := []) rfl rfl rfl ?_)) | (refine WP_cond rfl (fun hb => ?_) (fun hb => ?_) <;> (repeat (first | replace hb := dec_t hb | replace hb := dec_f hb)) <;> (try (exfalso; first | contradiction)))))
                all_goals (try (exfalso; first | contradiction | omega))
                all_goals exact cut_here () trivial (Leads_env (by repeat (first | exact sub_nil | refine sub_cons rfl ?_)) (List.Sublist.refl _))
              · rw [if_neg h1]
                (repeat' (first | refine WP_seq ?_ | refine WP_region ?_ | refine WPL_nil ?_ | (apply WPL_t; (first | (apply g_load; first | exact WT_load (k := 0) rfl rfl rfl rfl) | (apply g_fld; first | exact WT_field rfl rfl rfl) | (apply g_bin; first | exact WT_eql rfl rfl)); exact rfl) | refine WP_skip ?_ | (refine WP_cond rfl (fun hb => ?_) (fun hb => ?_) <;> (repeat (first | replace hb := dec_t hb | replace hb := dec_f hb)) <;> (try (exfalso; first | contradiction)))))
                all_goals (try (exfalso; first | contradiction | omega))
                all_goals exact cut_here () trivial (Leads_env (by repeat (first | exact sub_nil | refine sub_cons rfl ?_)) (List.Sublist.refl _))
            (repeat' (first | refine WP_region ?_ | refine WPL_nil ?_ | (apply WPL_t; (first | exact WT_move rfl | exact WT_assign rfl | (apply g_load; first | exact WT_loada2 (k := 0) rfl rfl rfl) | (apply g_bin; first | exact WT_add rfl rfl)); exact rfl) | (apply WPL_op0; exact rfl; first | (apply g_append; (first | (refine WO_append (k := 2) (l0 := []) rfl rfl (by first | exact Src_rowW (k := 0) rfl rfl) rfl ?_)); intro _) | (apply g_bslice; (first | refine WO_bslice1 rfl rfl ?_); intro _))))
            all_goals (rename_i v3; refine ⟨(q + 1, v3), by show q + 1 ≤ T.keys.length; omega, by show T.keys.length - (q + 1) < T.keys.length - q; omega, ?_⟩)
            all_goals (simp only [List.take_succ_eq_append_getElem hlq, List.map_append, List.map_cons, List.map_nil, List.flatMap_append, List.flatMap_cons, List.flatMap_nil, List.append_nil, hK])
            all_goals exact Leads_envd 2 (by repeat (first | exact sub_nil | refine sub_cons rfl ?_)) rfl
          · have hk9 : q = T.keys.length := by omega
            subst hk9
            rw [List.take_length]
            (repeat' (first | (apply at_dst 125; refine WPL_fvec (k := 0) (E := eKey) (t := 19) (T.keys.map (keyMov i j)) rfl rfl rfl (by simp) ?_ (hby := by show _ * 32 ≤ _; omega)) | (apply at_store; refine WPL_vv (k := 2) rfl (by omega) ?_; intro _ _ hv; subst hv) | refine WP_seq ?_ | refine WP_region ?_ | refine WPL_nil ?_ | (apply WPL_t; (first | exact WT_move rfl | (apply g_load; first | exact WT_load (k := 1) rfl rfl rfl rfl | exact WT_load (k := 3) rfl rfl rfl rfl) | (apply g_fld; first | exact WT_field rfl rfl rfl) | (apply g_bin; first | exact WT_lss rfl rfl | exact WT_add rfl rfl) | (apply g_build; first | exact WT_build2 rfl rfl (by repeat (first | exact PartsO.nil | (apply PartsO.cons; exact rfl; exact inferInstance; exact rfl; exact rfl))))); exact rfl) | refine WP_exit ?_ | (apply WPL_op0; exact rfl; first | (apply g_store; first | refine WO_store (k := 3) (l0 := []) rfl rfl rfl ?_) | (apply g_append; (first | (refine WO_append (k := 2) (l0 := []) rfl rfl (by first | exact Src_rowW (k := 0) rfl rfl) rfl ?_)); intro _) | (apply g_bslice; (first | refine WO_bslice1 rfl rfl ?_); intro _)) | (refine WP_cond rfl (fun hb => ?_) (fun hb => ?_) <;> (repeat (first | replace hb := dec_t hb | replace hb := dec_f hb)) <;> (try (exfalso; first | omega)))))
            all_goals (try (exfalso; omega))
            rename_i v3 c3
            refine ⟨(p + 1, .slice (some ⟨v3, 0, none⟩) (p + 1) c3), by show p + 1 ≤ _; omega, by show X.ties.length - (p + 1) < X.ties.length - p; omega, ?_⟩
            simp only [List.take_succ_eq_append_getElem hlt, List.map_append, List.map_cons, List.map_nil, List.flatMap_append, List.flatMap_cons, List.flatMap_nil, List.append_nil, hT]
            exact Leads_envd 2 (by repeat (first | exact sub_nil | refine sub_cons rfl ?_)) rfl
        · have hk9 : p = X.ties.length := by omega
          subst hk9
          rw [List.take_length]
          (repeat' (first | (apply cuts_at 33; refine Stop.out ?_) | refine WP_seq ?_ | refine WP_region ?_ | refine WPL_nil ?_ | (apply WPL_t; (first | (apply g_bin; first | exact WT_lss rfl rfl)); exact rfl) | refine WP_exit ?_ | (refine WP_cond rfl (fun hb => ?_) (fun hb => ?_) <;> (repeat (first | replace hb := dec_t hb | replace hb := dec_f hb)) <;> (try (exfalso; first | omega)))))
          all_goals (try (exfalso; omega))
          constructor
          apply WP_leads
          · exact Leads_fcell (j := 0) (k := 0) (i := 4) (E := eTie) (X.ties.map (RulesD.tieMov i j)) rfl rfl rfl (by simp) rfl rfl (hby := by show _ * 40 ≤ _; omega)
          (repeat' (first | refine WP_seq ?_ | refine WP_region ?_ | refine WPL_nil ?_ | (apply WPL_t; (first | exact WT_move rfl | (apply g_load; first | exact WT_load (k := 2) rfl rfl rfl rfl) | (apply g_fld; first | exact WT_field rfl rfl rfl) | (apply g_call; first | exact WT_len rfl rfl)); exact rfl) | refine WP_block ?_))
          refine WP_loop (fun s : Nat × Value => ([(9, ex (.pointer (some ⟨b9, 0, none⟩))), (10, ex (.pointer (some ⟨b10, 0, none⟩))), (12, ex (.pointer (some ⟨b12, 0, none⟩))), (14, fpx b14 [clos (.func 19) [fpx b7 [exI .i64 (i : Int)], fpx b8 [exI .i64 (j : Int)]]]), (15, fpx b15 [clos (.func 20) [fpx b14 [clos (.func 19) [fpx b7 [exI .i64 (i : Int)], fpx b8 [exI .i64 (j : Int)]]], ex (.pointer (some ⟨b15, 0, none⟩))]]), (16, ex (.pointer (some ⟨b16, 0, none⟩))), (132, isl (eRound k) X.rounds), (133, exI .i64 (X.rounds.length : Int)), (134, exI .i64 (s.1 : Int))], vec s.2 49 13 s.1 (((X.rounds.take s.1).map (RulesD.roundMov i j)).flatMap (roundV k)) :: row b16 28 9 [exT X.name, isl eCrit CS, isl eItem X.bonus, isl eItem X.malus, isl eTie (X.ties.map (RulesD.tieMov i j)), ex s.2, isl eI X.prizes, isl eI X.points, exI .i64 X.best] :: [row b12 28 9 (rulesV k (X.moved CS i j)), row b10 28 9 (rulesV k X)])) (fun s => s.1 ≤ X.rounds.length) (fun s => X.rounds.length - s.1) (0, .slice none 0 0) ?_ (Nat.zero_le _) fun s hs => ?_
          · exact Leads_nilv 49 13 (Leads_env (by repeat (first | exact sub_nil | refine sub_cons rfl ?_)) (List.Sublist.refl _))
          obtain ⟨p, v⟩ := s
          simp only at hs ⊢
          by_cases hlt : p < X.rounds.length
          · have hcall := mexpr_any i j b7 b8 b14 b15 k X.rounds[p].score
            (repeat' (first | (apply at_region 37; refine Stop.out ?_) | refine WP_seq ?_ | refine WP_region ?_ | refine WPL_nil ?_ | (apply WPL_t; (first | (apply g_load; first | exact WT_loadx rfl rfl | exact WT_loadfa rfl rfl | exact WT_loada2 (k := 0) rfl rfl rfl) | (apply g_fld; first | exact WT_field rfl rfl rfl) | (apply g_bin; first | exact WT_lss rfl rfl) | (apply g_index; first | exact WT_index rfl rfl rfl)); exact rfl) | refine WP_block ?_ | refine WP_skip ?_ | (apply WPL_op0; exact rfl; first | (apply g_callf; first | (refine WO_callC (args := [_]) rfl (.keep (.slot 15 rfl (fun _ _ _ h => h.1) .nil)) .nil Tryd.func20 rfl hcall rfl ?_; rintro _ _ ⟨rfl, rfl⟩)) | (apply g_alloc; refine WO_alloc ?_; intro _) | (apply g_store; first | refine WO_store (k := 0) (l0 := []) rfl rfl rfl ?_)) | (refine WP_cond rfl (fun hb => ?_) (fun hb => ?_) <;> (repeat (first | replace hb := dec_t hb | replace hb := dec_f hb)) <;> (try (exfalso; first | omega)))))
            all_goals (try (exfalso; omega))
            rename_i b23
            constructor
            refine WP_leads (env' := [(9, ex (.pointer (some ⟨b9, 0, none⟩))), (10, ex (.pointer (some ⟨b10, 0, none⟩))), (12, ex (.pointer (some ⟨b12, 0, none⟩))), (14, fpx b14 [clos (.func 19) [fpx b7 [exI .i64 (i : Int)], fpx b8 [exI .i64 (j : Int)]]]), (15, fpx b15 [clos (.func 20) [fpx b14 [clos (.func 19) [fpx b7 [exI .i64 (i : Int)], fpx b8 [exI .i64 (j : Int)]]], ex (.pointer (some ⟨b15, 0, none⟩))]]), (16, ex (.pointer (some ⟨b16, 0, none⟩))), (132, isl (eRound k) X.rounds), (133, exI .i64 (X.rounds.length : Int)), (134, exI .i64 (p : Int)), (23, ex (.pointer (some ⟨b23, 0, none⟩)))]) (loc' := row b23 49 13 (roundV k (RulesD.roundMov i j X.rounds[p])) :: vec v 49 13 p (((X.rounds.take p).map (RulesD.roundMov i j)).flatMap (roundV k)) :: row b16 28 9 [exT X.name, isl eCrit CS, isl eItem X.bonus, isl eItem X.malus, isl eTie (X.ties.map (RulesD.tieMov i j)), ex v, isl eI X.prizes, isl eI X.points, exI .i64 X.best] :: [row b12 28 9 (rulesV k (X.moved CS i j)), row b10 28 9 (rulesV k X)]) (Leads_env (by repeat (first | exact sub_nil | refine sub_cons rfl ?_)) (List.Sublist.refl _)) ?_
            (repeat' (first | (apply at_store; refine WPL_vv (k := 2) rfl (by omega) ?_; intro _ _ hv; subst hv) | refine WP_region ?_ | refine WPL_nil ?_ | (apply WPL_t; (first | exact WT_move rfl | (apply g_load; first | exact WT_load (k := 2) rfl rfl rfl rfl | exact WT_loada2 (k := 0) rfl rfl rfl) | (apply g_fld; first | exact WT_field rfl rfl rfl) | (apply g_bin; first | exact WT_add rfl rfl)); exact rfl) | (apply WPL_op0; exact rfl; first | (apply g_store; first | refine WO_store (k := 3) (l0 := []) rfl rfl rfl ?_) | (apply g_append; (first | (refine WO_append (k := 2) (l0 := []) rfl rfl (by first | exact Src_rowW (k := 0) rfl rfl) rfl ?_)); intro _) | (apply g_bslice; (first | refine WO_bslice1 rfl rfl ?_); intro _))))
            rename_i v3 c3
            refine ⟨(p + 1, .slice (some ⟨v3, 0, none⟩) (p + 1) c3), by show p + 1 ≤ _; omega, by show X.rounds.length - (p + 1) < X.rounds.length - p; omega, ?_⟩
            simp only [List.take_succ_eq_append_getElem hlt, List.map_append, List.map_cons, List.map_nil, List.flatMap_append, List.flatMap_cons, List.flatMap_nil, List.append_nil]
            exact Leads_envd 2 (by repeat (first | exact sub_nil | refine sub_cons rfl ?_)) rfl
          · have hk9 : p = X.rounds.length := by omega
            subst hk9
            rw [List.take_length]
            (repeat' (first | (apply cut_at 39; refine Stop.out ?_) | refine WP_seq ?_ | refine WP_region ?_ | refine WPL_nil ?_ | (apply WPL_t; (first | (apply g_bin; first | exact WT_lss rfl rfl)); exact rfl) | refine WP_exit ?_ | (refine WP_cond rfl (fun hb => ?_) (fun hb => ?_) <;> (repeat (first | replace hb := dec_t hb | replace hb := dec_f hb)) <;> (try (exfalso; first | omega)))))
            all_goals (try (exfalso; omega))
            constructor
            apply WP_leads
            · exact Leads_fcell (j := 0) (k := 0) (i := 5) (E := eRound k) (X.rounds.map (RulesD.roundMov i j)) rfl rfl rfl (by simp) rfl rfl (hby := by show _ * 136 ≤ _; omega)
            (repeat' (first | refine WP_seq ?_ | refine WP_region ?_ | refine WPL_nil ?_ | (apply WPL_t; (first | exact WT_assign rfl | (apply g_load; first | exact WT_loada2 (k := 0) rfl rfl rfl | exact WT_loada2 (k := 1) rfl rfl rfl)); exact rfl) | refine WP_ret ?_ | (apply WPL_op0; exact rfl; first | (apply g_callf; first | (refine WO_call Tryd.func11 rfl h4 rfl ?_; rintro _ _ ⟨rfl, rfl⟩)))))
            exact ⟨.inr rfl, ret1 rfl (.tmp rfl) (List.nil_sublist _) ⟨rfl, rfl⟩⟩
      · generalize r.resolve freeF = z at h1 h2 he
        obtain ⟨x, e⟩ := z
        simp only at h1 h2 he
        generalize ((r.swap i j hi hj).resolve freeF).1 = y at h2
        (repeat' (first | refine WP_seq ?_ | refine WP_region ?_ | refine WPL_nil ?_ | (apply WPL_t; (first | exact WT_move rfl | exact WT_assign rfl | exact WT_extract rfl rfl | (apply g_load; first | exact WT_loada2 (k := 1) rfl rfl rfl) | (apply g_bin; first | exact WT_neq rfl rfl)); exact rfl) | refine WP_skip ?_ | refine WP_ret ?_ | (apply WPL_op0; exact rfl; first | (apply g_callf; first | (refine WO_callG (.dup 2 rfl rfl .nil) Tryd.func9 rfl h1 rfl ?_; rintro _ _ ⟨rfl, rfl⟩) | (refine WO_callG (.dup 3 rfl rfl .nil) Tryd.func9 rfl h2 rfl ?_; rintro _ _ ⟨rfl, rfl⟩)) | (apply g_alloc; refine WO_alloc ?_; intro _) | (apply g_store; first | refine WO_store (k := 0) (l0 := []) rfl rfl rfl ?_)) | (refine WP_cond rfl (fun hb => ?_) (fun hb => ?_) <;> (repeat (first | replace hb := dec_t hb | replace hb := dec_f hb | replace hb := not_t hb | replace hb := not_f hb)) <;> (try (exfalso; first | contradiction)))))
        all_goals (try (exfalso; first | contradiction | omega))
        all_goals (exact ⟨.inr rfl, ret1 rfl (.tmp rfl) (List.nil_sublist _) ⟨rfl, rfl⟩⟩)
    · (repeat' (first | refine WP_seq ?_ | refine WP_region ?_ | refine WPL_nil ?_ | (apply WPL_t; (first | exact WT_move rfl | exact WT_assign rfl | exact WT_pick (b := false) rfl (fun e => by cases e) (fun _ => rfl) | (apply g_load; first | exact WT_loada2 (k := 0) rfl rfl rfl) | (apply g_un; first | exact WT_not rfl)); exact rfl) | (apply WPL_gt; exact rfl; exact rfl; exact rfl; (first | (apply g_load; first | exact WT_load (k := 0) rfl rfl rfl rfl) | (apply g_fld; first | exact WT_field rfl rfl rfl) | (apply g_bin; first | exact WT_eql rfl rfl) | (apply g_call; first | exact WT_len rfl rfl)); exact rfl) | refine WP_skip ?_ | refine WP_ret ?_ | refine WP_cond_f rfl ?_ | (apply WPL_op0; exact rfl; first | (apply g_callf; first | (refine WO_callG (.dup 1 rfl rfl .nil) Tryd.func7 rfl sane14_any rfl ?_; rintro _ _ ⟨rfl, rfl⟩) | (refine WO_call Tryd.func8 rfl h0 rfl ?_; rintro _ _ ⟨rfl, rfl⟩)) | (apply g_box; refine WO_box rfl ?_; intro _)) | (refine WP_cond rfl (fun hb => ?_) (fun hb => ?_) <;> (repeat (first | replace hb := dec_t hb | replace hb := dec_f hb)) <;> (try (exfalso; first | omega)))))
      all_goals (try (exfalso; first | contradiction | omega))
      all_goals (exact ⟨.inr rfl, ret1 rfl (.tmp rfl) (List.nil_sublist _) ⟨rfl, rfl⟩⟩)
  · rw [Bool.not_eq_true] at hf
    rw [hf] at h0
    (repeat' (first | refine WP_seq ?_ | refine WP_region ?_ | refine WPL_nil ?_ | (apply WPL_t; (first | exact WT_move rfl | exact WT_assign rfl | exact WT_pick (b := true) rfl (fun _ => rfl) (fun e => by cases e) | (apply g_load; first | exact WT_loada2 (k := 0) rfl rfl rfl) | (apply g_un; first | exact WT_not rfl)); exact rfl) | (refine WPL_off rfl rfl rfl rfl rfl ?_) | refine WP_skip ?_ | refine WP_ret ?_ | refine WP_cond_t rfl ?_ | refine WP_cond_f rfl ?_ | (apply WPL_op0; exact rfl; first | (apply g_callf; first | (refine WO_callG (.dup 1 rfl rfl .nil) Tryd.func7 rfl sane14_any rfl ?_; rintro _ _ ⟨rfl, rfl⟩) | (refine WO_call Tryd.func8 rfl h0 rfl ?_; rintro _ _ ⟨rfl, rfl⟩)) | (apply g_box; refine WO_box rfl ?_; intro _))))
    all_goals (try (exfalso; first | contradiction | omega))
    all_goals (exact ⟨.inr rfl, ret1 rfl (.tmp rfl) (List.nil_sublist _) ⟨rfl, rfl⟩⟩)
theorem namesMoved_int (k : Nat) (r : RulesD) (a : Int) (h1 : IntKind.u8.min ≤ a) (h2 : a ≤ IntKind.u8.max) (b : Int) (h3 : IntKind.u8.min ≤ b) (h4 : b ≤ IntKind.u8.max) : FnC Tryd.prog 6 [rul k r, exI .u8 a, exI .u8 b] [Tab] (fun p loc => p = exB true ∧ loc = []) := by
  have h1' : (0 : Int) ≤ a := h1
  have h2' : a ≤ (255 : Int) := h2
  have h3' : (0 : Int) ≤ b := h3
  have h4' : b ≤ (255 : Int) := h4
  obtain ⟨a, rfl⟩ := Int.eq_ofNat_of_zero_le h1'
  obtain ⟨b, rfl⟩ := Int.eq_ofNat_of_zero_le h3'
  exact namesMoved_any k r a b (by omega) (by omega)
end Go.Proofs.YtjjjblegnjiaoaaDoor
