/- NamesMean: plain facts, and the walk. -/
import Derived.Test.YtjjjblegnjiaoaaDoorMa
-- STRINGS
-- ROWS
-- PRUNEC
namespace Go.Proofs.YtjjjblegnjiaoaaDoor
open Go Go.RowKit Go.Kx Go.Fr
theorem resolve_bad {fr : List UInt8 → Bool} {r : RulesD} : (r.resolve fr).2 = 0 ∨ ((r.resolve fr).1 = RulesD.zero ∧ ((r.resolve fr).2 = 2 ∨ (r.resolve fr).2 = 140 ∨ (r.resolve fr).2 = 141)) := by
  unfold RulesD.resolve
  split
  · exact .inr ⟨rfl, .inl rfl⟩
  · split
    · exact .inr ⟨rfl, .inr (.inl rfl)⟩
    · split
      · exact .inr ⟨rfl, .inr (.inr rfl)⟩
      · split
        · exact .inr ⟨rfl, .inr (.inl rfl)⟩
        · exact .inl rfl
theorem resolve_all {fr : List UInt8 → Bool} {r : RulesD} (h : (r.resolve fr).2 = 0) : r.allOk = true := by
  unfold RulesD.resolve at h
  split at h
  · cases h
  · split at h
    · cases h
    · split at h
      · cases h
      · split at h
        · cases h
        · rename_i h4; simpa using h4
/-- How a key's number stands to its reference. -/
def KeyFine (l0 l2 l3 : List (List UInt8)) (q q' : KeyD) : Prop :=
  q'.kind = q.kind ∧ q'.name = q.name ∧ ((q.kind = 1 ∧ FnC Tryd.prog 15 [isl eStr l0, exI .i64 q'.n, exT q'.name] [] (fun p loc => p = exB true ∧ loc = [])) ∨ (q.kind = 2 ∧ FnC Tryd.prog 15 [isl eStr l3, exI .i64 q'.n, exT q'.name] [] (fun p loc => p = exB true ∧ loc = [])) ∨ (q.kind = 5 ∧ FnC Tryd.prog 15 [isl eStr l2, exI .i64 q'.n, exT q'.name] [] (fun p loc => p = exB true ∧ loc = [])) ∨ (q.kind ≠ 1 ∧ q.kind ≠ 2 ∧ q.kind ≠ 5 ∧ q'.n = q.n))
theorem key_fine {l0 l2 l3 : List (List UInt8)} {q : KeyD} (h : keyOk l0 l2 l3 q = true) : KeyFine l0 l2 l3 q (keyN l0 l2 l3 q) := by
  refine ⟨rfl, rfl, ?_⟩
  unfold keyOk at h
  by_cases h1 : q.kind = 1
  · rw [if_pos h1] at h
    have e : (keyN l0 l2 l3 q).n = indexF l0 q.name := by unfold keyN; rw [if_pos h1]
    exact .inl ⟨h1, by rw [e]; exact has_idx _ _ (of_decide_eq_true h)⟩
  · rw [if_neg h1] at h
    by_cases h2 : q.kind = 2
    · rw [if_pos h2] at h
      have e : (keyN l0 l2 l3 q).n = indexF l3 q.name := by unfold keyN; rw [if_neg h1, if_pos h2]
      exact .inr (.inl ⟨h2, by rw [e]; exact has_idx _ _ (of_decide_eq_true h)⟩)
    · rw [if_neg h2] at h
      by_cases h5 : q.kind = 5
      · rw [if_pos h5] at h
        have e : (keyN l0 l2 l3 q).n = indexF l2 q.name := by unfold keyN; rw [if_neg h1, if_neg h2, if_pos h5]
        exact .inr (.inr (.inl ⟨h5, by rw [e]; exact has_idx _ _ (of_decide_eq_true h)⟩))
      · exact .inr (.inr (.inr ⟨h1, h2, h5, by unfold keyN; rw [if_neg h1, if_neg h2, if_neg h5]⟩))
set_option maxHeartbeats 2000000 in
set_option maxRecDepth 100000 in
theorem namesMean_any (k : Nat) (r : RulesD) : FnC Tryd.prog 4 [rul k r] [Tab] (fun p loc => p = exB true ∧ loc = []) := by
  refine FnC_enter Tryd.func4 rfl Tryd.ntmps4 rfl fun w0 F0 out => ?_
  have h0 := few14_any k r
  by_cases hf : r.few = true
  · rw [hf] at h0
    have h1 := nresolve_any k r hf
    by_cases he : (r.resolve freeF).2 = 0
    · have hx := resolve_ok he
      have hall := resolve_all he
      rw [he, hx] at h1
      clear he hx
      have h4 := names14_any k r ⟨(few_facts hf).2.1, (few_facts hf).2.2.1⟩
      have hT : r.resolved.ties.length = r.ties.length := List.length_map _
      have hR : r.resolved.rounds.length = r.rounds.length := List.length_map _
      (repeat' (first | (apply cuts_at 11; refine Stop.out ?_) | refine WP_seq ?_ | refine WP_region ?_ | refine WPL_nil ?_ | (apply WPL_t; (first | exact WT_move rfl | exact WT_assign rfl | exact WT_pick (b := false) rfl (fun e => by cases e) (fun _ => rfl) | exact WT_extract rfl rfl | (apply g_load; first | exact WT_load (k := 1) rfl rfl rfl rfl | exact WT_load (k := 2) rfl rfl rfl rfl | exact WT_loada2 (k := 0) rfl rfl rfl | exact WT_loada2 (k := 1) rfl rfl rfl) | (apply g_fld; first | exact WT_field rfl rfl rfl) | (apply g_bin; first | exact WT_neq rfl rfl) | (apply g_call; first | exact WT_len rfl rfl) | (apply g_un; first | exact WT_not rfl)); exact rfl) | (apply WPL_gt; exact rfl; exact rfl; exact rfl; (first | (apply g_load; first | exact WT_load (k := 1) rfl rfl rfl rfl | exact WT_load (k := 2) rfl rfl rfl rfl) | (apply g_fld; first | exact WT_field rfl rfl rfl) | (apply g_bin; first | exact WT_neq rfl rfl) | (apply g_call; first | exact WT_len rfl rfl)); exact rfl) | refine WP_skip ?_ | refine WP_cond_f rfl ?_ | (apply WPL_op0; exact rfl; first | (apply g_callf; first | (refine WO_callG (.dup 1 rfl rfl .nil) Tryd.func7 rfl sane14_any rfl ?_; rintro _ _ ⟨rfl, rfl⟩) | (refine WO_call Tryd.func8 rfl h0 rfl ?_; rintro _ _ ⟨rfl, rfl⟩) | (refine WO_callG (.dup 1 rfl rfl .nil) Tryd.func9 rfl h1 rfl ?_; rintro _ _ ⟨rfl, rfl⟩) | (refine WO_call Tryd.func14 rfl h4 rfl ?_; rintro _ _ ⟨rfl, rfl⟩)) | (apply g_box; refine WO_box rfl ?_; intro _) | (apply g_alloc; refine WO_alloc ?_; intro _) | (apply g_store; first | refine WO_store (k := 0) (l0 := []) rfl rfl rfl ?_)) | (refine WPL_case rfl rfl (fun hb => ?_) (fun hb => ?_) <;> (repeat (first | replace hb := dec_t hb | replace hb := dec_f hb | replace hb := not_t hb | replace hb := not_f hb)) <;> (try (exfalso; first | omega))) | (refine WP_cond rfl (fun hb => ?_) (fun hb => ?_) <;> (repeat (first | replace hb := dec_t hb | replace hb := dec_f hb | replace hb := not_t hb | replace hb := not_f hb)) <;> (try (exfalso; first | omega)))))
      all_goals (try (exfalso; first | contradiction | omega))
      rename_i b1 b3 b5 _
      constructor
      refine WP_leads (env' := [(1, ex (.pointer (some ⟨b1, 0, none⟩))), (3, ex (.pointer (some ⟨b3, 0, none⟩))), (5, ex (.pointer (some ⟨b5, 0, none⟩)))]) (loc' := [row b5 37 4 (nmsV r.n0 r.n1 r.n2 r.n3), row b3 28 9 (rulesV k r.resolved), row b1 28 9 (rulesV k r), Tab]) (Leads_env (by repeat (first | exact sub_nil | refine sub_cons rfl ?_)) (List.Sublist.refl _)) ?_
      clear h0 h1 h4
      (repeat' (first | refine WP_seq ?_ | refine WP_region ?_ | refine WPL_nil ?_ | (apply WPL_t; (first | exact WT_move rfl | (apply g_load; first | exact WT_load (k := 1) rfl rfl rfl rfl) | (apply g_fld; first | exact WT_field rfl rfl rfl) | (apply g_call; first | exact WT_len rfl rfl)); exact rfl) | refine WP_block ?_))
      refine WP_loop (fun i : Nat => ([(1, ex (.pointer (some ⟨b1, 0, none⟩))), (3, ex (.pointer (some ⟨b3, 0, none⟩))), (5, ex (.pointer (some ⟨b5, 0, none⟩))), (61, isl eTie r.resolved.ties), (62, exI .i64 (r.ties.length : Int)), (63, exI .i64 (i : Int))], [row b5 37 4 (nmsV r.n0 r.n1 r.n2 r.n3), row b3 28 9 (rulesV k r.resolved), row b1 28 9 (rulesV k r), Tab])) (fun i => i ≤ r.ties.length) (fun i => r.ties.length - i) 0 ?_ (Nat.zero_le _) fun i hi => ?_
      · rw [hT]; exact Leads_env (by repeat (first | exact sub_nil | refine sub_cons rfl ?_)) (List.Sublist.refl _)
      have hLt := (few_facts hf).2.2.2.1
      by_cases hlt : i < r.ties.length
      · have hti : r.resolved.ties[i]'(by omega) = r.tieN r.ties[i] := by simp [RulesD.resolved]
        have hyn : (r.resolved.ties[i]'(by omega)).name = r.ties[i].name := by rw [hti]; rfl
        have hyk : (r.resolved.ties[i]'(by omega)).keys = r.ties[i].keys.map (keyN r.n0 r.n2 r.n3) := by rw [hti]; rfl
        clear hti
        have hyl : (r.resolved.ties[i]'(by omega)).keys.length = r.ties[i].keys.length := by rw [hyk, List.length_map]
        have hok : r.tieOk r.ties[i] = true := by
          unfold RulesD.allOk at hall
          rw [Bool.and_eq_true, List.all_eq_true] at hall
          exact hall.1 _ (List.getElem_mem hlt)
        have hkk : ∀ (j : Nat) (h : j < r.ties[i].keys.length) (h2 : j < (r.resolved.ties[i]'(by omega)).keys.length), KeyFine r.n0 r.n2 r.n3 r.ties[i].keys[j] (r.resolved.ties[i]'(by omega)).keys[j] := fun j h h2 => by
          have e : (r.resolved.ties[i]'(by omega)).keys[j] = keyN r.n0 r.n2 r.n3 r.ties[i].keys[j] := by
            simp only [hyk, List.getElem_map]
          rw [e]
          exact key_fine (List.all_eq_true.1 hok _ (List.getElem_mem h))
        have h40 := (few_facts hf).2.2.2.2.2.2.2.1 _ (List.getElem_mem hlt)
        clear hyk hok
        (repeat' (first | (apply cuts_at 14; refine Stop.out ?_) | refine WP_seq ?_ | refine WP_region ?_ | refine WPL_nil ?_ | (apply WPL_t; (first | exact WT_move rfl | exact WT_assign rfl | (apply g_load; first | exact WT_loadfa rfl rfl) | (apply g_bin; first | exact WT_lss rfl rfl) | (apply g_index; first | exact WT_index rfl rfl rfl)); exact rfl) | refine WP_block ?_ | refine WP_skip ?_ | (apply WPL_op0; exact rfl; first | (apply g_alloc; refine WO_alloc ?_; intro _) | (apply g_store; first | refine WO_store (k := 0) (l0 := []) rfl rfl rfl ?_)) | (refine WP_cond rfl (fun hb => ?_) (fun hb => ?_) <;> (repeat (first | replace hb := dec_t hb | replace hb := dec_f hb)) <;> (try (exfalso; first | omega)))))
        all_goals (try (exfalso; first | contradiction | omega))
        rename_i b7
        constructor
        refine WP_leads (env' := [(1, ex (.pointer (some ⟨b1, 0, none⟩))), (3, ex (.pointer (some ⟨b3, 0, none⟩))), (5, ex (.pointer (some ⟨b5, 0, none⟩))), (61, isl eTie r.resolved.ties), (62, exI .i64 (r.ties.length : Int)), (63, exI .i64 (i : Int)), (6, exI .i64 (i : Int)), (7, ex (.pointer (some ⟨b7, 0, none⟩)))]) (loc' := [row b7 41 2 (tieV (r.resolved.ties[i]'(by omega))), row b5 37 4 (nmsV r.n0 r.n1 r.n2 r.n3), row b3 28 9 (rulesV k r.resolved), row b1 28 9 (rulesV k r), Tab]) (Leads_env (by repeat (first | exact sub_nil | refine sub_cons rfl ?_)) (List.Sublist.refl _)) ?_
        refine WP_seq ?_
        refine WP_seq ?_
        (refine WP_drawl 22 rfl ?_)
        all_goals ((apply WPY_pure 0 rfl (by decide +kernel) rfl (by repeat (first | exact np_ret)) guard_none; (first | (apply g_fld; first | exact WT_field rfl rfl rfl)); exact rfl))
        all_goals ((apply WPY_take 1 rfl (by decide +kernel) rfl (by decide +kernel) (by repeat (first | exact np_ret)) guard_none; (first | (apply g_load; first | exact WT_load (k := 0) rfl rfl rfl rfl)); exact rfl))
        all_goals ((apply WPY_pure 2 rfl (by decide +kernel) rfl (by repeat (first | exact np_ret)) guard_none; (first | (apply g_fld; first | exact WT_field rfl rfl rfl)); exact rfl))
        all_goals ((apply WPY_take 3 rfl (by decide +kernel) rfl (by decide +kernel) (by repeat (first | exact np_ret)) guard_none; (first | (apply g_load; first | exact WT_load (k := 3) rfl rfl rfl rfl)); exact rfl))
        all_goals ((apply WPY_pure 4 rfl (by decide +kernel) rfl (by repeat (first | exact np_ret)) guard_none; (first | exact WT_move rfl); exact rfl))
        all_goals ((apply WPY_pure 5 rfl (by decide +kernel) rfl (by repeat (first | exact np_ret)) guard_none; (first | (apply g_index; first | exact WT_index rfl rfl rfl)); exact rfl))
        all_goals ((apply WPY_pure 6 rfl (by decide +kernel) rfl (by repeat (first | exact np_ret)) guard_none; (first | (apply g_fld; first | exact WT_fieldf rfl rfl rfl)); exact rfl))
        all_goals ((apply WPY_take 7 rfl (by decide +kernel) rfl (by decide +kernel) (by repeat (first | exact np_ret)) guard_none; (first | (apply g_load; first | exact WT_loadf rfl rfl)); exact rfl))
        all_goals ((apply WPY_pure 8 rfl (by decide +kernel) rfl (by repeat (first | exact np_ret)) guard_none; (first | (apply g_bin; first | exact WT_tne rfl rfl)); exact rfl))
        all_goals ((apply WPY_pure 9 rfl (by decide +kernel) rfl (by repeat (first | exact np_ret)) guard_none; (first | exact WT_move rfl); exact rfl))
        all_goals (first | (refine WPY_case 77 rfl (fun hb => ?_) (fun hb => ?_) <;> (repeat (first | replace hb := dec_t hb | replace hb := dec_f hb | replace hb := not_t hb | replace hb := not_f hb)) <;> (try (exfalso; first | (cases hb; done) | contradiction | omega))) | skip)
        all_goals (first | (apply WPY_pure 10 rfl (by decide +kernel) rfl (by repeat (first | exact np_ret)) (guard_some rfl rfl rfl); (first | (apply g_fld; first | exact WT_field rfl rfl rfl)); exact rfl))
        all_goals (first | (apply WPY_take 11 rfl (by decide +kernel) rfl (by decide +kernel) (by repeat (first | exact np_ret)) (guard_some rfl rfl rfl); (first | (apply g_load; first | exact WT_load (k := 0) rfl rfl rfl rfl)); exact rfl))
        all_goals (first | (apply WPY_pure 12 rfl (by decide +kernel) rfl (by repeat (first | exact np_ret)) (guard_some rfl rfl rfl); (first | (apply g_call; first | exact WT_len rfl rfl)); exact rfl))
        all_goals (first | (apply WPY_pure 13 rfl (by decide +kernel) rfl (by repeat (first | exact np_ret)) (guard_some rfl rfl rfl); (first | (apply g_fld; first | exact WT_field rfl rfl rfl)); exact rfl))
        all_goals (first | (apply WPY_take 14 rfl (by decide +kernel) rfl (by decide +kernel) (by repeat (first | exact np_ret)) (guard_some rfl rfl rfl); (first | (apply g_load; first | exact WT_load (k := 3) rfl rfl rfl rfl)); exact rfl))
        all_goals (first | (apply WPY_pure 15 rfl (by decide +kernel) rfl (by repeat (first | exact np_ret)) (guard_some rfl rfl rfl); (first | exact WT_move rfl); exact rfl))
        all_goals (first | (apply WPY_pure 16 rfl (by decide +kernel) rfl (by repeat (first | exact np_ret)) (guard_some rfl rfl rfl); (first | (apply g_index; first | exact WT_index rfl rfl rfl)); exact rfl))
        all_goals (first | (apply WPY_pure 17 rfl (by decide +kernel) rfl (by repeat (first | exact np_ret)) (guard_some rfl rfl rfl); (first | (apply g_fld; first | exact WT_fieldf rfl rfl rfl)); exact rfl))
        all_goals (first | (apply WPY_take 18 rfl (by decide +kernel) rfl (by decide +kernel) (by repeat (first | exact np_ret)) (guard_some rfl rfl rfl); (first | (apply g_load; first | exact WT_loadf rfl rfl)); exact rfl))
        all_goals (first | (apply WPY_pure 19 rfl (by decide +kernel) rfl (by repeat (first | exact np_ret)) (guard_some rfl rfl rfl); (first | (apply g_call; first | exact WT_len rfl rfl)); exact rfl))
        all_goals (first | (apply WPY_pure 20 rfl (by decide +kernel) rfl (by repeat (first | exact np_ret)) (guard_some rfl rfl rfl); (first | (apply g_bin; first | exact WT_neq rfl rfl)); exact rfl))
        all_goals ((apply WPY_pure 21 rfl (by decide +kernel) rfl (by repeat (first | exact np_ret)) guard_none; (first | exact WT_pick (b := false) rfl (fun e => by cases e) (fun _ => rfl)); exact rfl))
        all_goals (refine WPY_done (by decide +kernel) ?_)
        all_goals (try (exfalso; first | contradiction | omega))
        (repeat' (first | refine WP_seq ?_ | refine WP_region ?_ | refine WPL_nil ?_ | (apply WPL_t; (first | exact WT_move rfl | (apply g_load; first | exact WT_load (k := 0) rfl rfl rfl rfl) | (apply g_fld; first | exact WT_field rfl rfl rfl) | (apply g_call; first | exact WT_len rfl rfl)); exact rfl) | refine WP_block ?_ | refine WP_skip ?_ | (refine WP_cond rfl (fun hb => ?_) (fun hb => ?_) <;> (repeat (first | replace hb := dec_t hb | replace hb := dec_f hb | replace hb := not_t hb | replace hb := not_f hb)) <;> (try (exfalso; first | omega)))))
        all_goals (try (exfalso; first | contradiction | omega))
        refine WP_loop (fun j : Nat => ([(1, ex (.pointer (some ⟨b1, 0, none⟩))), (3, ex (.pointer (some ⟨b3, 0, none⟩))), (5, ex (.pointer (some ⟨b5, 0, none⟩))), (61, isl eTie r.resolved.ties), (62, exI .i64 (r.ties.length : Int)), (63, exI .i64 (i : Int)), (6, exI .i64 (i : Int)), (7, ex (.pointer (some ⟨b7, 0, none⟩))), (91, isl eKey (r.resolved.ties[i]'(by omega)).keys), (92, exI .i64 (r.ties[i].keys.length : Int)), (93, exI .i64 (j : Int))], [row b7 41 2 (tieV (r.resolved.ties[i]'(by omega))), row b5 37 4 (nmsV r.n0 r.n1 r.n2 r.n3), row b3 28 9 (rulesV k r.resolved), row b1 28 9 (rulesV k r), Tab])) (fun j => j ≤ r.ties[i].keys.length) (fun j => r.ties[i].keys.length - j) 0 ?_ (Nat.zero_le _) fun j hj => ?_
        · rw [hyl]; exact Leads_env (by repeat (first | exact sub_nil | refine sub_cons rfl ?_)) (List.Sublist.refl _)
        by_cases hlj : j < r.ties[i].keys.length
        · have hk := hkk j hlj (by omega)
          (repeat' (first | (apply cuts_at 21; refine Stop.out ?_) | refine WP_seq ?_ | refine WP_region ?_ | refine WPL_nil ?_ | (apply WPL_t; (first | exact WT_move rfl | exact WT_assign rfl | (apply g_load; first | exact WT_loadf rfl rfl | exact WT_load (k := 0) rfl rfl rfl rfl | exact WT_load (k := 1) rfl rfl rfl rfl | exact WT_load (k := 4) rfl rfl rfl rfl | exact WT_loadfa rfl rfl) | (apply g_fld; first | exact WT_field rfl rfl rfl | exact WT_fieldf rfl rfl rfl) | (apply g_bin; first | exact WT_lss rfl rfl | exact WT_eql rfl rfl) | (apply g_index; first | exact WT_index rfl rfl rfl)); exact rfl) | refine WP_block ?_ | refine WP_skip ?_ | (apply WPL_op0; exact rfl; first | (apply g_alloc; refine WO_alloc ?_; intro _) | (apply g_store; first | refine WO_store (k := 0) (l0 := []) rfl rfl rfl ?_)) | (refine WP_cond rfl (fun hb => ?_) (fun hb => ?_) <;> (repeat (first | replace hb := dec_t hb | replace hb := dec_f hb)) <;> (try (exfalso; first | omega)))))
          all_goals (try (exfalso; first | contradiction | omega))
          rename_i b9 b10
          constructor
          refine WP_leads (env' := [(1, ex (.pointer (some ⟨b1, 0, none⟩))), (3, ex (.pointer (some ⟨b3, 0, none⟩))), (5, ex (.pointer (some ⟨b5, 0, none⟩))), (61, isl eTie r.resolved.ties), (62, exI .i64 (r.ties.length : Int)), (63, exI .i64 (i : Int)), (6, exI .i64 (i : Int)), (7, ex (.pointer (some ⟨b7, 0, none⟩))), (91, isl eKey (r.resolved.ties[i]'(by omega)).keys), (92, exI .i64 (r.ties[i].keys.length : Int)), (93, exI .i64 (j : Int)), (8, exI .i64 (j : Int)), (9, ex (.pointer (some ⟨b9, 0, none⟩))), (10, ex (.pointer (some ⟨b10, 0, none⟩))), (11, exB (decide (((r.resolved.ties[i]'(by omega)).keys[j]'(by omega)).n = r.ties[i].keys[j].n)))]) (loc' := [row b10 43 3 (keyV r.ties[i].keys[j]), row b9 43 3 (keyV ((r.resolved.ties[i]'(by omega)).keys[j]'(by omega))), row b7 41 2 (tieV (r.resolved.ties[i]'(by omega))), row b5 37 4 (nmsV r.n0 r.n1 r.n2 r.n3), row b3 28 9 (rulesV k r.resolved), row b1 28 9 (rulesV k r), Tab]) (Leads_env (by repeat (first | exact sub_nil | refine sub_cons rfl ?_)) (List.Sublist.refl _)) ?_
          obtain ⟨hq1, hq2, hq3⟩ := hk
          generalize ((r.resolved.ties[i]'(by omega)).keys[j]'(by omega)) = q' at hq1 hq2 hq3 ⊢
          generalize r.ties[i].keys[j] = q at hq1 hq2 hq3 ⊢
          rcases hq3 with ⟨hq3, hH⟩ | ⟨hq3, hH⟩ | ⟨hq3, hH⟩ | ⟨hq3, hq4, hq5, hq6⟩
          · (repeat' (first | refine WP_seq ?_ | refine WP_region ?_ | refine WPL_nil ?_ | (apply WPL_t; (first | exact WT_move rfl | exact WT_assign rfl | exact WT_pick (b := false) rfl (fun e => by cases e) (fun _ => rfl) | (apply g_load; first | exact WT_load (k := 1) rfl rfl rfl rfl | exact WT_load (k := 3) rfl rfl rfl rfl) | (apply g_fld; first | exact WT_field rfl rfl rfl) | (apply g_bin; first | exact WT_eql rfl rfl | exact WT_add rfl rfl) | (apply g_index; first | exact WT_indexa rfl rfl rfl) | (apply g_un; first | exact WT_not rfl)); exact rfl) | (apply WPL_gt; exact rfl; exact rfl; exact rfl; (first | (apply g_load; first | exact WT_load (k := 0) rfl rfl rfl rfl | exact WT_load (k := 1) rfl rfl rfl rfl) | (apply g_fld; first | exact WT_field rfl rfl rfl) | (apply g_bin; first | exact WT_tne rfl rfl | exact WT_neq rfl rfl)); exact rfl) | refine WP_block ?_ | refine WP_skip ?_ | (apply WPL_op0; exact rfl; first | (apply g_callf; first | (refine WO_call Tryd.func15 rfl hH rfl ?_; rintro _ _ ⟨rfl, rfl⟩))) | (refine WPL_case rfl rfl (fun hb => ?_) (fun hb => ?_) <;> (repeat (first | replace hb := dec_t hb | replace hb := dec_f hb | replace hb := not_t hb | replace hb := not_f hb)) <;> (try (exfalso; first | contradiction))) | (refine WP_cond rfl (fun hb => ?_) (fun hb => ?_) <;> (repeat (first | replace hb := dec_t hb | replace hb := dec_f hb | replace hb := not_t hb | replace hb := not_f hb)) <;> (try (exfalso; first | contradiction | omega)))))
            all_goals (try (exfalso; first | contradiction | omega))
            all_goals ((repeat' (first | fail)))
            all_goals (try (exfalso; first | contradiction | omega))
            all_goals (exact ⟨j + 1, by show j + 1 ≤ r.ties[i].keys.length; omega, by show r.ties[i].keys.length - (j + 1) < r.ties[i].keys.length - j; omega, Leads_envd 2 (by repeat (first | exact sub_nil | refine sub_cons rfl ?_)) rfl⟩)
          · (repeat' (first | refine WP_seq ?_ | refine WP_region ?_ | refine WPL_nil ?_ | (apply WPL_t; (first | exact WT_move rfl | exact WT_assign rfl | exact WT_pick (b := false) rfl (fun e => by cases e) (fun _ => rfl) | (apply g_load; first | exact WT_load (k := 1) rfl rfl rfl rfl | exact WT_load (k := 3) rfl rfl rfl rfl) | (apply g_fld; first | exact WT_field rfl rfl rfl) | (apply g_bin; first | exact WT_eql rfl rfl | exact WT_add rfl rfl) | (apply g_index; first | exact WT_indexa rfl rfl rfl) | (apply g_un; first | exact WT_not rfl)); exact rfl) | (apply WPL_gt; exact rfl; exact rfl; exact rfl; (first | (apply g_load; first | exact WT_load (k := 0) rfl rfl rfl rfl | exact WT_load (k := 1) rfl rfl rfl rfl) | (apply g_fld; first | exact WT_field rfl rfl rfl) | (apply g_bin; first | exact WT_tne rfl rfl | exact WT_neq rfl rfl)); exact rfl) | refine WP_block ?_ | refine WP_skip ?_ | (apply WPL_op0; exact rfl; first | (apply g_callf; first | (refine WO_call Tryd.func15 rfl hH rfl ?_; rintro _ _ ⟨rfl, rfl⟩))) | (refine WPL_case rfl rfl (fun hb => ?_) (fun hb => ?_) <;> (repeat (first | replace hb := dec_t hb | replace hb := dec_f hb | replace hb := not_t hb | replace hb := not_f hb)) <;> (try (exfalso; first | contradiction))) | (refine WP_cond rfl (fun hb => ?_) (fun hb => ?_) <;> (repeat (first | replace hb := dec_t hb | replace hb := dec_f hb | replace hb := not_t hb | replace hb := not_f hb)) <;> (try (exfalso; first | contradiction | omega)))))
            all_goals (try (exfalso; first | contradiction | omega))
            all_goals ((repeat' (first | fail)))
            all_goals (try (exfalso; first | contradiction | omega))
            all_goals (exact ⟨j + 1, by show j + 1 ≤ r.ties[i].keys.length; omega, by show r.ties[i].keys.length - (j + 1) < r.ties[i].keys.length - j; omega, Leads_envd 2 (by repeat (first | exact sub_nil | refine sub_cons rfl ?_)) rfl⟩)
          · (repeat' (first | refine WP_seq ?_ | refine WP_region ?_ | refine WPL_nil ?_ | (apply WPL_t; (first | exact WT_move rfl | exact WT_assign rfl | exact WT_pick (b := false) rfl (fun e => by cases e) (fun _ => rfl) | (apply g_load; first | exact WT_load (k := 1) rfl rfl rfl rfl | exact WT_load (k := 3) rfl rfl rfl rfl) | (apply g_fld; first | exact WT_field rfl rfl rfl) | (apply g_bin; first | exact WT_eql rfl rfl | exact WT_add rfl rfl) | (apply g_index; first | exact WT_indexa rfl rfl rfl) | (apply g_un; first | exact WT_not rfl)); exact rfl) | (apply WPL_gt; exact rfl; exact rfl; exact rfl; (first | (apply g_load; first | exact WT_load (k := 0) rfl rfl rfl rfl | exact WT_load (k := 1) rfl rfl rfl rfl) | (apply g_fld; first | exact WT_field rfl rfl rfl) | (apply g_bin; first | exact WT_tne rfl rfl | exact WT_neq rfl rfl)); exact rfl) | refine WP_block ?_ | refine WP_skip ?_ | (apply WPL_op0; exact rfl; first | (apply g_callf; first | (refine WO_call Tryd.func15 rfl hH rfl ?_; rintro _ _ ⟨rfl, rfl⟩))) | (refine WPL_case rfl rfl (fun hb => ?_) (fun hb => ?_) <;> (repeat (first | replace hb := dec_t hb | replace hb := dec_f hb | replace hb := not_t hb | replace hb := not_f hb)) <;> (try (exfalso; first | contradiction))) | (refine WP_cond rfl (fun hb => ?_) (fun hb => ?_) <;> (repeat (first | replace hb := dec_t hb | replace hb := dec_f hb | replace hb := not_t hb | replace hb := not_f hb)) <;> (try (exfalso; first | contradiction | omega)))))
            all_goals (try (exfalso; first | contradiction | omega))
            all_goals ((repeat' (first | fail)))
            all_goals (try (exfalso; first | contradiction | omega))
            all_goals (exact ⟨j + 1, by show j + 1 ≤ r.ties[i].keys.length; omega, by show r.ties[i].keys.length - (j + 1) < r.ties[i].keys.length - j; omega, Leads_envd 2 (by repeat (first | exact sub_nil | refine sub_cons rfl ?_)) rfl⟩)
          · (repeat' (first | refine WP_seq ?_ | refine WP_region ?_ | refine WPL_nil ?_ | (apply WPL_t; (first | exact WT_move rfl | exact WT_assign rfl | exact WT_pick (b := false) rfl (fun e => by cases e) (fun _ => rfl) | (apply g_load; first | exact WT_load (k := 1) rfl rfl rfl rfl) | (apply g_fld; first | exact WT_field rfl rfl rfl) | (apply g_bin; first | exact WT_eql rfl rfl | exact WT_add rfl rfl) | (apply g_un; first | exact WT_not rfl)); exact rfl) | (apply WPL_gt; exact rfl; exact rfl; exact rfl; (first | (apply g_load; first | exact WT_load (k := 0) rfl rfl rfl rfl | exact WT_load (k := 1) rfl rfl rfl rfl) | (apply g_fld; first | exact WT_field rfl rfl rfl) | (apply g_bin; first | exact WT_tne rfl rfl | exact WT_neq rfl rfl)); exact rfl) | refine WP_block ?_ | refine WP_skip ?_ | (refine WPL_case rfl rfl (fun hb => ?_) (fun hb => ?_) <;> (repeat (first | replace hb := dec_t hb | replace hb := dec_f hb | replace hb := not_t hb | replace hb := not_f hb)) <;> (try (exfalso; first | contradiction))) | (refine WP_cond rfl (fun hb => ?_) (fun hb => ?_) <;> (repeat (first | replace hb := dec_t hb | replace hb := dec_f hb | replace hb := not_t hb | replace hb := not_f hb)) <;> (try (exfalso; first | contradiction | omega)))))
            all_goals (try (exfalso; first | contradiction | omega))
            all_goals ((repeat' (first | fail)))
            all_goals (try (exfalso; first | contradiction | omega))
            all_goals (exact ⟨j + 1, by show j + 1 ≤ r.ties[i].keys.length; omega, by show r.ties[i].keys.length - (j + 1) < r.ties[i].keys.length - j; omega, Leads_envd 2 (by repeat (first | exact sub_nil | refine sub_cons rfl ?_)) rfl⟩)
        · (repeat' (first | refine WP_seq ?_ | refine WP_region ?_ | refine WPL_nil ?_ | (apply WPL_t; (first | exact WT_move rfl | (apply g_bin; first | exact WT_lss rfl rfl | exact WT_add rfl rfl)); exact rfl) | refine WP_exit ?_ | (refine WP_cond rfl (fun hb => ?_) (fun hb => ?_) <;> (repeat (first | replace hb := dec_t hb | replace hb := dec_f hb)) <;> (try (exfalso; first | omega)))))
          all_goals (try (exfalso; first | contradiction | omega))
          all_goals (exact ⟨i + 1, by show i + 1 ≤ r.ties.length; omega, by show r.ties.length - (i + 1) < r.ties.length - i; omega, Leads_envd 1 (by repeat (first | exact sub_nil | refine sub_cons rfl ?_)) rfl⟩)
      · (repeat' (first | refine WP_seq ?_ | refine WP_region ?_ | refine WPL_nil ?_ | (apply WPL_t; (first | exact WT_move rfl | (apply g_load; first | exact WT_load (k := 1) rfl rfl rfl rfl) | (apply g_fld; first | exact WT_field rfl rfl rfl) | (apply g_bin; first | exact WT_lss rfl rfl) | (apply g_call; first | exact WT_len rfl rfl)); exact rfl) | refine WP_block ?_ | refine WP_exit ?_ | (refine WP_cond rfl (fun hb => ?_) (fun hb => ?_) <;> (repeat (first | replace hb := dec_t hb | replace hb := dec_f hb)) <;> (try (exfalso; first | omega)))))
        all_goals (try (exfalso; first | contradiction | omega))
        clear hb hlt hi hT hLt
        have hLr := (few_facts hf).2.2.2.2.1
        refine WP_loop (fun i : Nat => ([(1, ex (.pointer (some ⟨b1, 0, none⟩))), (3, ex (.pointer (some ⟨b3, 0, none⟩))), (5, ex (.pointer (some ⟨b5, 0, none⟩))), (160, isl (eRound k) r.resolved.rounds), (161, exI .i64 (r.rounds.length : Int)), (162, exI .i64 (i : Int))], [row b5 37 4 (nmsV r.n0 r.n1 r.n2 r.n3), row b3 28 9 (rulesV k r.resolved), row b1 28 9 (rulesV k r), Tab])) (fun i => i ≤ r.rounds.length) (fun i => r.rounds.length - i) 0 ?_ (Nat.zero_le _) fun i hi => ?_
        · rw [hR]; exact Leads_env (by repeat (first | exact sub_nil | refine sub_cons rfl ?_)) (List.Sublist.refl _)
        by_cases hlt : i < r.rounds.length
        · have hti : r.resolved.rounds[i]'(by omega) = r.roundN r.rounds[i] := by simp [RulesD.resolved]
          have hok : r.roundOk r.rounds[i] = true := by
            unfold RulesD.allOk at hall
            rw [Bool.and_eq_true] at hall
            exact List.all_eq_true.1 hall.2 _ (List.getElem_mem hlt)
          (repeat' (first | (apply cuts_at 36; refine Stop.out ?_) | refine WP_seq ?_ | refine WP_region ?_ | refine WPL_nil ?_ | (apply WPL_t; (first | exact WT_move rfl | exact WT_assign rfl | (apply g_load; first | exact WT_load (k := 3) rfl rfl rfl rfl | exact WT_loadfa rfl rfl) | (apply g_fld; first | exact WT_field rfl rfl rfl) | (apply g_bin; first | exact WT_lss rfl rfl) | (apply g_index; first | exact WT_index rfl rfl rfl)); exact rfl) | refine WP_block ?_ | refine WP_skip ?_ | (apply WPL_op0; exact rfl; first | (apply g_alloc; refine WO_alloc ?_; intro _) | (apply g_store; first | refine WO_store (k := 0) (l0 := []) rfl rfl rfl ?_)) | (refine WP_cond rfl (fun hb => ?_) (fun hb => ?_) <;> (repeat (first | replace hb := dec_t hb | replace hb := dec_f hb)) <;> (try (exfalso; first | omega)))))
          all_goals (try (exfalso; first | contradiction | omega))
          rename_i b13 b14
          constructor
          refine WP_leads (env' := [(1, ex (.pointer (some ⟨b1, 0, none⟩))), (3, ex (.pointer (some ⟨b3, 0, none⟩))), (5, ex (.pointer (some ⟨b5, 0, none⟩))), (160, isl (eRound k) r.resolved.rounds), (161, exI .i64 (r.rounds.length : Int)), (162, exI .i64 (i : Int)), (12, exI .i64 (i : Int)), (13, ex (.pointer (some ⟨b13, 0, none⟩))), (14, ex (.pointer (some ⟨b14, 0, none⟩)))]) (loc' := [row b14 49 13 (roundV k r.rounds[i]), row b13 49 13 (roundV k (r.resolved.rounds[i]'(by omega))), row b5 37 4 (nmsV r.n0 r.n1 r.n2 r.n3), row b3 28 9 (rulesV k r.resolved), row b1 28 9 (rulesV k r), Tab]) (Leads_env (by repeat (first | exact sub_nil | refine sub_cons rfl ?_)) (List.Sublist.refl _)) ?_
          rw [hti]
          generalize r.rounds[i] = y at hok hti ⊢
          clear hti
          obtain ⟨hok1, hok2⟩ := Bool.and_eq_true_iff.1 hok
          have hM := meant_any r.n0 r.n1 r.n2 r.n3 k y.score hok1
          have hS := sameRound_any k k y y
          rw [decide_eq_true rfl] at hS
          have hV : roundV k (r.roundN y) = [exT y.name, exI .i64 y.panel, exI .i64 y.quota, exI .i64 y.cut, exB y.places, exB y.free, exI .i64 (y.score.res r.n0 r.n3).kind, exT (y.score.res r.n0 r.n3).name, exI .i64 (y.score.res r.n0 r.n3).n, exI .i64 (y.score.res r.n0 r.n3).d, exL k (y.score.res r.n0 r.n3).l, exT y.tie, exI .i64 (if y.tie = [] then -1 else indexF r.n2 y.tie)] := rfl
          rw [hV]
          clear hV
          by_cases ht : y.tie = []
          · rw [if_pos ht]
            (repeat' (first | (apply cut_at 38; refine Stop.out ?_) | refine WP_seq ?_ | refine WP_region ?_ | refine WPL_nil ?_ | (apply WPL_t; (first | exact WT_move rfl | exact WT_pick (b := false) rfl (fun e => by cases e) (fun _ => rfl) | (apply g_load; first | exact WT_loada2 (k := 0) rfl rfl rfl | exact WT_loada2 (k := 1) rfl rfl rfl | exact WT_loada2 (k := 2) rfl rfl rfl) | (apply g_fld; first | exact WT_field rfl rfl rfl) | (apply g_un; first | exact WT_not rfl)); exact rfl) | (refine WPL_off rfl rfl rfl rfl rfl ?_) | (apply WPL_gt; exact rfl; exact rfl; exact rfl; (first | exact WT_move rfl | exact WT_pick (b := true) rfl (fun _ => rfl) (fun e => by cases e) | exact WT_pick (b := false) rfl (fun e => by cases e) (fun _ => rfl) | (apply g_load; first | exact WT_load (k := 0) rfl rfl rfl rfl | exact WT_load (k := 1) rfl rfl rfl rfl) | (apply g_fld; first | exact WT_field rfl rfl rfl) | (apply g_bin; first | exact WT_teq rfl rfl | exact WT_tne rfl rfl | exact WT_neq rfl rfl)); exact rfl) | refine WP_skip ?_ | refine WP_cond_f rfl ?_ | (apply WPL_op0; exact rfl; first | (apply g_callf; first | (refine WO_call Tryd.func16 rfl hM rfl ?_; rintro _ _ ⟨rfl, rfl⟩))) | (refine WPL_case rfl rfl (fun hb => ?_) (fun hb => ?_) <;> (repeat (first | replace hb := dec_t hb | replace hb := dec_f hb | replace hb := not_t hb | replace hb := not_f hb)) <;> (try (exfalso; first | contradiction)))))
            all_goals (try (exfalso; first | contradiction | omega))
            constructor
            refine WP_cutR 38 (fun _ : Unit => ([(1, ex (.pointer (some ⟨b1, 0, none⟩))), (3, ex (.pointer (some ⟨b3, 0, none⟩))), (5, ex (.pointer (some ⟨b5, 0, none⟩))), (160, isl (eRound k) r.resolved.rounds), (161, exI .i64 (r.rounds.length : Int)), (162, exI .i64 (i : Int)), (13, ex (.pointer (some ⟨b13, 0, none⟩))), (14, ex (.pointer (some ⟨b14, 0, none⟩)))], [row b14 49 13 (roundV k y), row b13 49 13 (roundV k y), row b5 37 4 (nmsV r.n0 r.n1 r.n2 r.n3), row b3 28 9 (rulesV k r.resolved), row b1 28 9 (rulesV k r), Tab])) (fun _ => True) ?_ fun _ _ => ?_
            · skip
              (refine WP_draw ([row b14 49 13 (roundV k y)]) 8 rfl ?_)
              all_goals ((apply WPY_pure 0 rfl (by decide +kernel) rfl (by repeat (first | exact np_ret)) guard_none; (first | (apply g_fld; first | exact WT_field rfl rfl rfl)); exact rfl))
              all_goals ((apply WPY_take 1 rfl (by decide +kernel) rfl (by decide +kernel) (by repeat (first | exact np_ret)) guard_none; (first | (apply g_load; first | exact WT_loada2 (k := 0) rfl rfl rfl)); exact rfl))
              all_goals ((apply WPY_pure 2 rfl (by decide +kernel) rfl (by repeat (first | exact np_ret)) guard_none; (first | (apply g_fld; first | exact WT_field rfl rfl rfl)); exact rfl))
              all_goals ((apply WPY_take 3 rfl (by decide +kernel) rfl (by decide +kernel) (by repeat (first | exact np_ret)) guard_none; (first | (apply g_load; first | exact WT_load (k := 0) rfl rfl rfl rfl)); exact rfl))
              all_goals ((apply WPY_pure 4 rfl (by decide +kernel) rfl (by repeat (first | exact np_ret)) guard_none; (first | (apply g_fld; first | exact WT_field rfl rfl rfl)); exact rfl))
              all_goals (first | (apply WPY_one 5; exact (by decide +kernel); exact rfl; exact guard_none; exact (fun _ _ h => h); first | (apply g_store; refine WO_store (k := 1) (hH := (by repeat (first | exact List.nil_sublist _ | apply List.Sublist.cons_cons))) rfl rfl rfl ?_)))
              all_goals ((apply WPY_pure 6 rfl (by decide +kernel) rfl (by repeat (first | exact np_ret)) guard_none; (first | (apply g_fld; first | exact WT_field rfl rfl rfl)); exact rfl))
              all_goals (first | (apply WPY_one 7; exact (by decide +kernel); exact rfl; exact guard_none; exact (fun _ _ h => h); first | (apply g_store; refine WO_store (k := 1) (hH := (by repeat (first | exact List.nil_sublist _ | apply List.Sublist.cons_cons))) rfl rfl rfl ?_)))
              all_goals (refine WPY_done (by decide +kernel) ?_)
              exact cut_here () trivial (Leads_env (by repeat (first | exact sub_nil | refine sub_cons rfl ?_)) (List.Sublist.refl _))
            (repeat' (first | refine WP_seq ?_ | refine WP_region ?_ | refine WPL_nil ?_ | (apply WPL_t; (first | exact WT_move rfl | (apply g_load; first | exact WT_loada2 (k := 0) rfl rfl rfl | exact WT_loada2 (k := 1) rfl rfl rfl) | (apply g_bin; first | exact WT_add rfl rfl) | (apply g_un; first | exact WT_not rfl)); exact rfl) | refine WP_skip ?_ | refine WP_cond_f rfl ?_ | (apply WPL_op0; exact rfl; first | (apply g_callf; first | (refine WO_call Tryd.func17 rfl hS rfl ?_; rintro _ _ ⟨rfl, rfl⟩)))))
            all_goals (try (exfalso; first | contradiction | omega))
            all_goals (exact ⟨i + 1, by show i + 1 ≤ r.rounds.length; omega, by show r.rounds.length - (i + 1) < r.rounds.length - i; omega, Leads_envd 2 (by repeat (first | exact sub_nil | refine sub_cons rfl ?_)) rfl⟩)
          · have hH : FnC Tryd.prog 15 [isl eStr r.n2, exI .i64 (if y.tie = [] then -1 else indexF r.n2 y.tie), exT y.tie] [] (fun p loc => p = exB true ∧ loc = []) := by
              rw [if_neg ht]
              refine has_idx _ _ ?_
              simpa [ht] using hok2
            generalize (if y.tie = [] then -1 else indexF r.n2 y.tie) = tn at hH ⊢
            (repeat' (first | (apply cut_at 38; refine Stop.out ?_) | refine WP_seq ?_ | refine WP_region ?_ | refine WPL_nil ?_ | (apply WPL_t; (first | exact WT_move rfl | exact WT_pick (b := false) rfl (fun e => by cases e) (fun _ => rfl) | (apply g_load; first | exact WT_loada2 (k := 0) rfl rfl rfl | exact WT_loada2 (k := 1) rfl rfl rfl | exact WT_loada2 (k := 2) rfl rfl rfl) | (apply g_fld; first | exact WT_field rfl rfl rfl) | (apply g_un; first | exact WT_not rfl)); exact rfl) | (refine WPL_off rfl rfl rfl rfl rfl ?_) | (apply WPL_gt; exact rfl; exact rfl; exact rfl; (first | exact WT_move rfl | exact WT_pick (b := true) rfl (fun _ => rfl) (fun e => by cases e) | exact WT_pick (b := false) rfl (fun e => by cases e) (fun _ => rfl) | (apply g_load; first | exact WT_load (k := 0) rfl rfl rfl rfl | exact WT_load (k := 1) rfl rfl rfl rfl | exact WT_load (k := 2) rfl rfl rfl rfl) | (apply g_fld; first | exact WT_field rfl rfl rfl) | (apply g_bin; first | exact WT_teq rfl rfl | exact WT_tne rfl rfl) | (apply g_index; first | exact WT_indexa rfl rfl rfl) | (apply g_un; first | exact WT_not rfl)); exact rfl) | refine WP_skip ?_ | refine WP_cond_f rfl ?_ | (apply WPL_op0; exact rfl; first | (apply g_callf; first | (refine WO_call Tryd.func16 rfl hM rfl ?_; rintro _ _ ⟨rfl, rfl⟩))) | (apply WPL_on0; exact rfl; exact rfl; exact rfl; exact rfl; (apply g_callf; first | (refine WO_call Tryd.func15 rfl hH rfl ?_; rintro _ _ ⟨rfl, rfl⟩))) | (refine WPL_case rfl rfl (fun hb => ?_) (fun hb => ?_) <;> (repeat (first | replace hb := dec_t hb | replace hb := dec_f hb | replace hb := not_t hb | replace hb := not_f hb)) <;> (try (exfalso; first | contradiction)))))
            all_goals (try (exfalso; first | contradiction | omega))
            constructor
            refine WP_cutR 38 (fun _ : Unit => ([(1, ex (.pointer (some ⟨b1, 0, none⟩))), (3, ex (.pointer (some ⟨b3, 0, none⟩))), (5, ex (.pointer (some ⟨b5, 0, none⟩))), (160, isl (eRound k) r.resolved.rounds), (161, exI .i64 (r.rounds.length : Int)), (162, exI .i64 (i : Int)), (13, ex (.pointer (some ⟨b13, 0, none⟩))), (14, ex (.pointer (some ⟨b14, 0, none⟩)))], [row b14 49 13 (roundV k y), row b13 49 13 (roundV k y), row b5 37 4 (nmsV r.n0 r.n1 r.n2 r.n3), row b3 28 9 (rulesV k r.resolved), row b1 28 9 (rulesV k r), Tab])) (fun _ => True) ?_ fun _ _ => ?_
            · skip
              (refine WP_draw ([row b14 49 13 (roundV k y)]) 8 rfl ?_)
              all_goals ((apply WPY_pure 0 rfl (by decide +kernel) rfl (by repeat (first | exact np_ret)) guard_none; (first | (apply g_fld; first | exact WT_field rfl rfl rfl)); exact rfl))
              all_goals ((apply WPY_take 1 rfl (by decide +kernel) rfl (by decide +kernel) (by repeat (first | exact np_ret)) guard_none; (first | (apply g_load; first | exact WT_loada2 (k := 0) rfl rfl rfl)); exact rfl))
              all_goals ((apply WPY_pure 2 rfl (by decide +kernel) rfl (by repeat (first | exact np_ret)) guard_none; (first | (apply g_fld; first | exact WT_field rfl rfl rfl)); exact rfl))
              all_goals ((apply WPY_take 3 rfl (by decide +kernel) rfl (by decide +kernel) (by repeat (first | exact np_ret)) guard_none; (first | (apply g_load; first | exact WT_load (k := 0) rfl rfl rfl rfl)); exact rfl))
              all_goals ((apply WPY_pure 4 rfl (by decide +kernel) rfl (by repeat (first | exact np_ret)) guard_none; (first | (apply g_fld; first | exact WT_field rfl rfl rfl)); exact rfl))
              all_goals (first | (apply WPY_one 5; exact (by decide +kernel); exact rfl; exact guard_none; exact (fun _ _ h => h); first | (apply g_store; refine WO_store (k := 1) (hH := (by repeat (first | exact List.nil_sublist _ | apply List.Sublist.cons_cons))) rfl rfl rfl ?_)))
              all_goals ((apply WPY_pure 6 rfl (by decide +kernel) rfl (by repeat (first | exact np_ret)) guard_none; (first | (apply g_fld; first | exact WT_field rfl rfl rfl)); exact rfl))
              all_goals (first | (apply WPY_one 7; exact (by decide +kernel); exact rfl; exact guard_none; exact (fun _ _ h => h); first | (apply g_store; refine WO_store (k := 1) (hH := (by repeat (first | exact List.nil_sublist _ | apply List.Sublist.cons_cons))) rfl rfl rfl ?_)))
              all_goals (refine WPY_done (by decide +kernel) ?_)
              exact cut_here () trivial (Leads_env (by repeat (first | exact sub_nil | refine sub_cons rfl ?_)) (List.Sublist.refl _))
            (repeat' (first | refine WP_seq ?_ | refine WP_region ?_ | refine WPL_nil ?_ | (apply WPL_t; (first | exact WT_move rfl | (apply g_load; first | exact WT_loada2 (k := 0) rfl rfl rfl | exact WT_loada2 (k := 1) rfl rfl rfl) | (apply g_bin; first | exact WT_add rfl rfl) | (apply g_un; first | exact WT_not rfl)); exact rfl) | refine WP_skip ?_ | refine WP_cond_f rfl ?_ | (apply WPL_op0; exact rfl; first | (apply g_callf; first | (refine WO_call Tryd.func17 rfl hS rfl ?_; rintro _ _ ⟨rfl, rfl⟩)))))
            all_goals (try (exfalso; first | contradiction | omega))
            all_goals (exact ⟨i + 1, by show i + 1 ≤ r.rounds.length; omega, by show r.rounds.length - (i + 1) < r.rounds.length - i; omega, Leads_envd 2 (by repeat (first | exact sub_nil | refine sub_cons rfl ?_)) rfl⟩)
        · have h3 : FnC Tryd.prog 11 [agg [exT r.name, isl eCrit r.crits, isl eItem r.bonus, isl eItem r.malus, isl eTie r.ties, isl (eRound k) r.rounds, isl eI r.prizes, isl eI r.points, exI .i64 r.best], rul k r] [] (fun p loc => p = exB true ∧ loc = []) := by
            have h := same14_any k k r r
            rw [decide_eq_true rfl] at h
            exact h
          (repeat' (first | (apply cut_at 42; refine Stop.out ?_) | refine WP_seq ?_ | refine WP_region ?_ | refine WPL_nil ?_ | (apply WPL_t; (first | (apply g_bin; first | exact WT_lss rfl rfl)); exact rfl) | refine WP_exit ?_ | (refine WP_cond rfl (fun hb => ?_) (fun hb => ?_) <;> (repeat (first | replace hb := dec_t hb | replace hb := dec_f hb)) <;> (try (exfalso; first | omega)))))
          all_goals (try (exfalso; first | contradiction | omega))
          constructor
          refine WP_cutR 42 (fun _ : Unit => ([(1, ex (.pointer (some ⟨b1, 0, none⟩))), (3, ex (.pointer (some ⟨b3, 0, none⟩))), (5, ex (.pointer (some ⟨b5, 0, none⟩)))], [row b5 37 4 (nmsV r.n0 r.n1 r.n2 r.n3), row b3 28 9 [exT r.name, isl eCrit r.crits, isl eItem r.bonus, isl eItem r.malus, isl eTie r.ties, isl (eRound k) r.rounds, isl eI r.prizes, isl eI r.points, exI .i64 r.best], row b1 28 9 (rulesV k r), Tab])) (fun _ => True) ?_ fun _ _ => ?_
          · skip
            (refine WP_draw ([row b1 28 9 (rulesV k r)]) 8 rfl ?_)
            all_goals ((apply WPY_pure 0 rfl (by decide +kernel) rfl (by repeat (first | exact np_ret)) guard_none; (first | (apply g_fld; first | exact WT_field rfl rfl rfl)); exact rfl))
            all_goals ((apply WPY_take 1 rfl (by decide +kernel) rfl (by decide +kernel) (by repeat (first | exact np_ret)) guard_none; (first | (apply g_load; first | exact WT_load (k := 2) rfl rfl rfl rfl)); exact rfl))
            all_goals ((apply WPY_pure 2 rfl (by decide +kernel) rfl (by repeat (first | exact np_ret)) guard_none; (first | (apply g_fld; first | exact WT_field rfl rfl rfl)); exact rfl))
            all_goals ((apply WPY_take 3 rfl (by decide +kernel) rfl (by decide +kernel) (by repeat (first | exact np_ret)) guard_none; (first | (apply g_load; first | exact WT_load (k := 2) rfl rfl rfl rfl)); exact rfl))
            all_goals ((apply WPY_pure 4 rfl (by decide +kernel) rfl (by repeat (first | exact np_ret)) guard_none; (first | (apply g_fld; first | exact WT_field rfl rfl rfl)); exact rfl))
            all_goals (first | (apply WPY_one 5; exact (by decide +kernel); exact rfl; exact guard_none; exact (fun _ _ h => h); first | (apply g_store; refine WO_store (k := 1) (hH := (by repeat (first | exact List.nil_sublist _ | apply List.Sublist.cons_cons | apply List.Sublist.cons))) rfl rfl rfl ?_)))
            all_goals ((apply WPY_pure 6 rfl (by decide +kernel) rfl (by repeat (first | exact np_ret)) guard_none; (first | (apply g_fld; first | exact WT_field rfl rfl rfl)); exact rfl))
            all_goals (first | (apply WPY_one 7; exact (by decide +kernel); exact rfl; exact guard_none; exact (fun _ _ h => h); first | (apply g_store; refine WO_store (k := 1) (hH := (by repeat (first | exact List.nil_sublist _ | apply List.Sublist.cons_cons | apply List.Sublist.cons))) rfl rfl rfl ?_)))
            all_goals (refine WPY_done (by decide +kernel) ?_)
            exact cut_here () trivial (Leads_env (by repeat (first | exact sub_nil | refine sub_cons rfl ?_)) (List.Sublist.refl _))
          (repeat' (first | refine WP_seq ?_ | refine WP_region ?_ | refine WPL_nil ?_ | (apply WPL_t; (first | exact WT_assign rfl | (apply g_load; first | exact WT_loada2 (k := 1) rfl rfl rfl | exact WT_loada2 (k := 2) rfl rfl rfl)); exact rfl) | refine WP_ret ?_ | (apply WPL_op0; exact rfl; first | (apply g_callf; first | (refine WO_call Tryd.func11 rfl h3 rfl ?_; rintro _ _ ⟨rfl, rfl⟩)))))
          all_goals (exact ⟨.inr rfl, ret1 rfl (.tmp rfl) (List.nil_sublist _) ⟨rfl, rfl⟩⟩)
    · have hz := (resolve_bad (fr := freeF) (r := r)).resolve_left he
      generalize r.resolve freeF = z at h1 he hz
      obtain ⟨x, e⟩ := z
      simp only at h1 he hz
      obtain ⟨rfl, hz⟩ := hz
      have h3 : FnC Tryd.prog 11 [rul k RulesD.zero, agg [ex (.string .empty), ex (.slice none 0 0), ex (.slice none 0 0), ex (.slice none 0 0), ex (.slice none 0 0), ex (.slice none 0 0), ex (.slice none 0 0), ex (.slice none 0 0), exI .i64 0]] [] (fun p loc => p = exB true ∧ loc = []) := by
        have h := same14_any k k RulesD.zero RulesD.zero
        rw [decide_eq_true rfl] at h
        exact FnC_args h (.cons (Im.refl _) (.cons (im_zeroW k) .nil))
      (repeat' (first | refine WP_seq ?_ | refine WP_region ?_ | refine WPL_nil ?_ | (apply WPL_t; (first | exact WT_move rfl | exact WT_assign rfl | exact WT_pick (b := true) rfl (fun _ => rfl) (fun e => by cases e) | exact WT_extract rfl rfl | (apply g_load; first | exact WT_loada2 (k := 0) rfl rfl rfl) | (apply g_bin; first | exact WT_neq rfl rfl) | (apply g_un; first | exact WT_not rfl) | (apply g_build; first | exact WT_build2 rfl rfl (by repeat (first | exact PartsO.nil)))); exact rfl) | (refine WPL_off rfl rfl rfl rfl rfl ?_) | (apply WPL_gt; exact rfl; exact rfl; exact rfl; (first | exact WT_move rfl | exact WT_pick (b := true) rfl (fun _ => rfl) (fun e => by cases e) | exact WT_pick (b := false) rfl (fun e => by cases e) (fun _ => rfl) | (apply g_bin; first | exact WT_eql rfl rfl)); exact rfl) | refine WP_skip ?_ | refine WP_ret ?_ | refine WP_cond_f rfl ?_ | (apply WPL_op0; exact rfl; first | (apply g_callf; first | (refine WO_callG (.dup 1 rfl rfl .nil) Tryd.func7 rfl sane14_any rfl ?_; rintro _ _ ⟨rfl, rfl⟩) | (refine WO_call Tryd.func8 rfl h0 rfl ?_; rintro _ _ ⟨rfl, rfl⟩) | (refine WO_callG (.dup 1 rfl rfl .nil) Tryd.func9 rfl h1 rfl ?_; rintro _ _ ⟨rfl, rfl⟩) | (refine WO_call Tryd.func11 rfl h3 rfl ?_; rintro _ _ ⟨rfl, rfl⟩)) | (apply g_box; refine WO_box rfl ?_; intro _) | (apply g_alloc; refine WO_alloc ?_; intro _) | (apply g_store; first | refine WO_store (k := 0) (l0 := []) rfl rfl rfl ?_)) | (refine WPL_case rfl rfl (fun hb => ?_) (fun hb => ?_) <;> (repeat (first | replace hb := dec_t hb | replace hb := dec_f hb)) <;> (try (exfalso; first | fail))) | (refine WP_cond rfl (fun hb => ?_) (fun hb => ?_) <;> (repeat (first | replace hb := dec_t hb | replace hb := dec_f hb | replace hb := not_t hb | replace hb := not_f hb)) <;> (try (exfalso; first | contradiction)))))
      all_goals (try (exfalso; first | contradiction | omega))
      all_goals (exact ⟨.inr rfl, ret1 rfl (.tmp rfl) (List.nil_sublist _) ⟨congrArg exB (by first | rfl | (simp [*]; done) | (simp [*]; omega)), rfl⟩⟩)
  · rw [Bool.not_eq_true] at hf
    rw [hf] at h0
    (repeat' (first | refine WP_seq ?_ | refine WP_region ?_ | refine WPL_nil ?_ | (apply WPL_t; (first | exact WT_assign rfl | (apply g_load; first | exact WT_loada2 (k := 0) rfl rfl rfl) | (apply g_un; first | exact WT_not rfl)); exact rfl) | refine WP_skip ?_ | refine WP_ret ?_ | refine WP_cond_t rfl ?_ | refine WP_cond_f rfl ?_ | (apply WPL_op0; exact rfl; first | (apply g_callf; first | (refine WO_callG (.dup 1 rfl rfl .nil) Tryd.func7 rfl sane14_any rfl ?_; rintro _ _ ⟨rfl, rfl⟩) | (refine WO_call Tryd.func8 rfl h0 rfl ?_; rintro _ _ ⟨rfl, rfl⟩)) | (apply g_box; refine WO_box rfl ?_; intro _))))
    all_goals (try (exfalso; first | contradiction | omega))
    all_goals (exact ⟨.inr rfl, ret1 rfl (.tmp rfl) (List.nil_sublist _) ⟨rfl, rfl⟩⟩)
end Go.Proofs.YtjjjblegnjiaoaaDoor
