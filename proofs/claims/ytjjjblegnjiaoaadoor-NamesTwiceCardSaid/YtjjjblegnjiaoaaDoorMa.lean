/- has and meant of the laws. -/
import Derived.Test.YtjjjblegnjiaoaaDoorPart6
-- STRINGS
-- ROWS
namespace Go.Proofs.YtjjjblegnjiaoaaDoor
open Go Go.RowKit Go.Kx Go.Fr
set_option maxRecDepth 100000 in
theorem has_at (l : List (List UInt8)) (i : Nat) (hi : i < l.length) : FnC Tryd.prog 15 [isl eStr l, exI .i64 (i : Int), exT l[i]] [] (fun p loc => p = exB true ∧ loc = []) := by
  refine FnC_enter Tryd.func15 rfl Tryd.ntmps15 rfl fun w0 F0 out => ?_
  (repeat' (first | refine WP_seq ?_ | refine WP_region ?_ | refine WPL_nil ?_ | (apply WPL_t; (first | exact WT_move rfl | exact WT_assign rfl | exact WT_pick (b := true) rfl (fun _ => rfl) (fun e => by cases e) | (apply g_bin; first | exact WT_geq rfl rfl)); exact rfl) | (apply WPL_gt; exact rfl; exact rfl; exact rfl; (first | exact WT_move rfl | (apply g_load; first | exact WT_loadf rfl rfl) | (apply g_bin; first | exact WT_teq rfl rfl | exact WT_lss rfl rfl) | (apply g_index; first | exact WT_index rfl rfl rfl) | (apply g_call; first | exact WT_len rfl rfl)); exact rfl) | refine WP_ret ?_ | (refine WPL_case rfl rfl (fun hb => ?_) (fun hb => ?_) <;> (repeat (first | replace hb := dec_t hb | replace hb := dec_f hb)) <;> (try (exfalso; first | omega)))))
  all_goals (try (exfalso; first | contradiction | omega))
  all_goals (exact ⟨.inr rfl, ret1 rfl (.tmp rfl) (List.nil_sublist _) ⟨congrArg exB (by first | rfl | exact decide_eq_true rfl), rfl⟩⟩)
theorem has_idx (l : List (List UInt8)) (s : List UInt8) (h : 0 ≤ indexF l s) : FnC Tryd.prog 15 [isl eStr l, exI .i64 (indexF l s), exT s] [] (fun p loc => p = exB true ∧ loc = []) := by
  obtain ⟨i, hi, e, h1, _⟩ := indexF_lt ((indexF_nonneg l s).1 h)
  have := has_at l i hi
  rw [h1] at this
  rw [e]; exact this
set_option maxHeartbeats 1000000 in
set_option maxRecDepth 100000 in
theorem meant_any (l0 l1 l2 l3 : List (List UInt8)) : ∀ (k : Nat) (y : Ex) (_ : y.ok l0 l3 = true), FnC Tryd.prog 16 [agg (nmsV l0 l1 l2 l3), agg (exV k (y.res l0 l3)), agg (exV k y)] [] (fun p loc => p = exB true ∧ loc = []) := by
  intro k
  induction k with
  | zero => intro y _; exact FnC_says (i := 2) rfl Says_ex0 fun h => h.elim
  | succ k ih =>
    intro y hok
    refine FnC_says (i := 2) rfl (Says_agg (i := 4) (p := isl (eEx k) y.l) rfl Says_isl) fun hlen => ?_
    rw [Ex.res_l]
    rw [Ex.ok_l, Bool.and_eq_true, List.all_eq_true] at hok
    obtain ⟨hrk, hall⟩ := hok
    obtain ⟨hlen, _⟩ := hlen
    simp only [maxLen] at hlen
    show FnC Tryd.prog 16 [agg (nmsV l0 l1 l2 l3), agg [exI .i64 y.kind, exT y.name, exI .i64 (refN l0 l3 y.kind y.name y.n), exI .i64 y.d, isl (eEx k) (y.l.map (Ex.res l0 l3))], agg [exI .i64 y.kind, exT y.name, exI .i64 y.n, exI .i64 y.d, isl (eEx k) y.l]] [] (fun p loc => p = exB true ∧ loc = [])
    have hre : ∀ (m : Nat) (h : m < y.l.length) (h2 : m < (y.l.map (Ex.res l0 l3)).length), FnC Tryd.prog 16 [agg (nmsV l0 l1 l2 l3), agg (exV k ((y.l.map (Ex.res l0 l3))[m])), agg (exV k y.l[m])] [] (fun p loc => p = exB true ∧ loc = []) := fun m h h2 => by
      rw [List.getElem_map]; exact ih _ (hall _ (List.getElem_mem h))
    have hml : (y.l.map (Ex.res l0 l3)).length = y.l.length := List.length_map _
    clear ih hall
    generalize y.l.map (Ex.res l0 l3) = L at hre hml ⊢
    refine FnC_enter Tryd.func16 rfl Tryd.ntmps16 rfl fun w0 F0 out => ?_
    have hH : FnC Tryd.prog 15 [isl eStr (if y.kind = 2 then l0 else l3), exI .i64 (refN l0 l3 y.kind y.name y.n), exT y.name] [] (fun p loc => p = exB true ∧ loc = []) ∧ (y.kind = 2 ∨ y.kind = 5) ∨ (y.kind ≠ 2 ∧ y.kind ≠ 5 ∧ refN l0 l3 y.kind y.name y.n = y.n) := by
      unfold refN
      unfold refOk at hrk
      by_cases h2 : y.kind = 2
      · simp only [if_pos h2] at hrk ⊢
        exact .inl ⟨has_idx _ _ (of_decide_eq_true hrk), by first | exact .inl h2 | exact .inr h5⟩
      · by_cases h5 : y.kind = 5
        · simp only [if_neg h2, if_pos h5] at hrk ⊢
          exact .inl ⟨has_idx _ _ (of_decide_eq_true hrk), by first | exact .inl h2 | exact .inr h5⟩
        · exact .inr ⟨h2, h5, by rw [if_neg h2, if_neg h5]⟩
    clear hrk
    have go : ∀ (b1 b2 b3 : Nat) (n0 : Int), WP ⟨Tryd.prog, w0, F0, footX [], out, Tryd.f16.ntmps, []⟩ (rights 3 (Tryd.f16.body.getD .skip)) (retP ⟨Tryd.prog, w0, F0, footX [], out, Tryd.f16.ntmps, []⟩ Tryd.f16 (fun p loc => p = exB true ∧ loc = [])) [(3, ex (.pointer (some ⟨b1, 0, none⟩))), (4, ex (.pointer (some ⟨b2, 0, none⟩))), (5, ex (.pointer (some ⟨b3, 0, none⟩)))] [row b3 47 5 [exI .i64 y.kind, exT y.name, exI .i64 y.n, exI .i64 y.d, isl (eEx k) y.l], row b2 47 5 [exI .i64 y.kind, exT y.name, exI .i64 n0, exI .i64 y.d, isl (eEx k) L], row b1 37 4 (nmsV l0 l1 l2 l3)] := by
      intro b1 b2 b3 n0
      (repeat' (first | refine WP_seq ?_ | refine WP_region ?_ | refine WPL_nil ?_ | (apply WPL_t; (first | exact WT_move rfl | (apply g_load; first | exact WT_load (k := 1) rfl rfl rfl rfl) | (apply g_fld; first | exact WT_field rfl rfl rfl) | (apply g_call; first | exact WT_len rfl rfl)); exact rfl) | refine WP_block ?_))
      refine WP_loop (fun i : Nat => ([(3, ex (.pointer (some ⟨b1, 0, none⟩))), (4, ex (.pointer (some ⟨b2, 0, none⟩))), (5, ex (.pointer (some ⟨b3, 0, none⟩))), (65, exI .i64 (y.l.length : Int)), (66, exI .i64 (i : Int))], [row b3 47 5 [exI .i64 y.kind, exT y.name, exI .i64 y.n, exI .i64 y.d, isl (eEx k) y.l], row b2 47 5 [exI .i64 y.kind, exT y.name, exI .i64 n0, exI .i64 y.d, isl (eEx k) L], row b1 37 4 (nmsV l0 l1 l2 l3)])) (fun i => i ≤ y.l.length) (fun i => y.l.length - i) 0 ?_ (Nat.zero_le _) fun i hi => ?_
      · rw [hml]; exact Leads_env (by repeat (first | exact sub_nil | refine sub_cons rfl ?_)) (List.Sublist.refl _)
      by_cases hlt : i < y.l.length
      · have hcall := hre i hlt (by omega)
        (repeat' (first | refine WP_seq ?_ | refine WP_region ?_ | refine WPL_nil ?_ | (apply WPL_t; (first | exact WT_move rfl | exact WT_assign rfl | (apply g_bin; first | exact WT_lss rfl rfl)); exact rfl) | refine WP_block ?_ | refine WP_skip ?_ | (refine WP_cond rfl (fun hb => ?_) (fun hb => ?_) <;> (repeat (first | replace hb := dec_t hb | replace hb := dec_f hb)) <;> (try (exfalso; first | omega)))))
        all_goals (try (exfalso; first | contradiction | omega))
        (refine WP_drawl 13 rfl ?_)
        all_goals ((apply WPY_take 0 rfl (by decide +kernel) rfl (by decide +kernel) (by repeat (first | exact np_ret)) guard_none; (first | (apply g_load; first | exact WT_loada2 (k := 2) rfl rfl rfl)); exact rfl))
        all_goals ((apply WPY_pure 1 rfl (by decide +kernel) rfl (by repeat (first | exact np_ret)) guard_none; (first | (apply g_fld; first | exact WT_field rfl rfl rfl)); exact rfl))
        all_goals ((apply WPY_take 2 rfl (by decide +kernel) rfl (by decide +kernel) (by repeat (first | exact np_ret)) guard_none; (first | (apply g_load; first | exact WT_load (k := 1) rfl rfl rfl rfl)); exact rfl))
        all_goals ((apply WPY_pure 3 rfl (by decide +kernel) rfl (by repeat (first | exact np_ret)) guard_none; (first | exact WT_move rfl); exact rfl))
        all_goals ((apply WPY_pure 4 rfl (by decide +kernel) rfl (by repeat (first | exact np_ret)) guard_none; (first | (apply g_index; first | exact WT_index rfl rfl rfl)); exact rfl))
        all_goals ((apply WPY_take 5 rfl (by decide +kernel) rfl (by decide +kernel) (by repeat (first | exact np_ret)) guard_none; (first | (apply g_load; first | exact WT_loadfa rfl rfl)); exact rfl))
        all_goals ((apply WPY_pure 6 rfl (by decide +kernel) rfl (by repeat (first | exact np_ret)) guard_none; (first | (apply g_fld; first | exact WT_field rfl rfl rfl)); exact rfl))
        all_goals ((apply WPY_take 7 rfl (by decide +kernel) rfl (by decide +kernel) (by repeat (first | exact np_ret)) guard_none; (first | (apply g_load; first | exact WT_load (k := 0) rfl rfl rfl rfl)); exact rfl))
        all_goals ((apply WPY_pure 8 rfl (by decide +kernel) rfl (by repeat (first | exact np_ret)) guard_none; (first | exact WT_move rfl); exact rfl))
        all_goals ((apply WPY_pure 9 rfl (by decide +kernel) rfl (by repeat (first | exact np_ret)) guard_none; (first | (apply g_index; first | exact WT_index rfl rfl rfl)); exact rfl))
        all_goals ((apply WPY_take 10 rfl (by decide +kernel) rfl (by decide +kernel) (by repeat (first | exact np_ret)) guard_none; (first | (apply g_load; first | exact WT_loadfa rfl rfl)); exact rfl))
        all_goals (first | (apply WPY_one 11; exact (by decide +kernel); exact rfl; exact guard_none; exact (fun _ _ h => h); first | (apply g_callf; first | (refine WO_call Tryd.func16 rfl hcall rfl ?_; rintro _ _ ⟨rfl, rfl⟩))))
        all_goals ((apply WPY_pure 12 rfl (by decide +kernel) rfl (by repeat (first | exact np_ret)) guard_none; (first | (apply g_un; first | exact WT_not rfl)); exact rfl))
        all_goals (refine WPY_done (by decide +kernel) ?_)
        (repeat' (first | refine WP_region ?_ | refine WPL_nil ?_ | (apply WPL_t; (first | exact WT_move rfl | (apply g_bin; first | exact WT_add rfl rfl)); exact rfl) | refine WP_skip ?_ | refine WP_cond_f rfl ?_))
        exact ⟨i + 1, by show i + 1 ≤ y.l.length; omega, by show y.l.length - (i + 1) < y.l.length - i; omega, Leads_env (by repeat (first | exact sub_nil | refine sub_cons rfl ?_)) (List.Sublist.refl _)⟩
      · (repeat' (first | refine WP_seq ?_ | refine WP_region ?_ | refine WPL_nil ?_ | (apply WPL_t; (first | exact WT_assign rfl | (apply g_bin; first | exact WT_lss rfl rfl)); exact rfl) | refine WP_ret ?_ | refine WP_exit ?_ | (refine WP_cond rfl (fun hb => ?_) (fun hb => ?_) <;> (repeat (first | replace hb := dec_t hb | replace hb := dec_f hb)) <;> (try (exfalso; first | omega)))))
        all_goals (try (exfalso; first | contradiction | omega))
        all_goals (exact ⟨.inr rfl, ret1 rfl (.tmp rfl) (List.nil_sublist _) ⟨rfl, rfl⟩⟩)
    generalize refN l0 l3 y.kind y.name y.n = n0 at hH ⊢
    have fin : ∀ {env : Env} (b1 b2 b3 : Nat), (Fr.look 3 env = some (ex (.pointer (some ⟨b1, 0, none⟩)))) → (Fr.look 4 env = some (ex (.pointer (some ⟨b2, 0, none⟩)))) → (Fr.look 5 env = some (ex (.pointer (some ⟨b3, 0, none⟩)))) → WP ⟨Tryd.prog, w0, F0, footX [], out, Tryd.f16.ntmps, []⟩ (rights 3 (Tryd.f16.body.getD .skip)) (retP ⟨Tryd.prog, w0, F0, footX [], out, Tryd.f16.ntmps, []⟩ Tryd.f16 (fun p loc => p = exB true ∧ loc = [])) env [row b3 47 5 [exI .i64 y.kind, exT y.name, exI .i64 y.n, exI .i64 y.d, isl (eEx k) y.l], row b2 47 5 [exI .i64 y.kind, exT y.name, exI .i64 n0, exI .i64 y.d, isl (eEx k) L], row b1 37 4 (nmsV l0 l1 l2 l3)] := fun b1 b2 b3 h1 h2 h3 => WP_leads (Leads_env (sub_cons h1 (sub_cons h2 (sub_cons h3 sub_nil))) (List.Sublist.refl _)) (go b1 b2 b3 n0)
    clear go
    rcases hH with ⟨hH, h25⟩ | ⟨h2, h5, rfl⟩
    · by_cases h2 : y.kind = 2
      · rw [if_pos h2] at hH
        (repeat' (first | (apply cuts_at 12; exact fin _ _ _ rfl rfl rfl) | refine WP_seq ?_ | refine WP_region ?_ | refine WPL_nil ?_ | (apply WPL_t; (first | exact WT_move rfl | exact WT_assign rfl | exact WT_pick (b := true) rfl (fun _ => rfl) (fun e => by cases e) | exact WT_pick (b := false) rfl (fun e => by cases e) (fun _ => rfl) | (apply g_load; first | exact WT_load (k := 0) rfl rfl rfl rfl | exact WT_load (k := 1) rfl rfl rfl rfl | exact WT_load (k := 2) rfl rfl rfl rfl) | (apply g_fld; first | exact WT_field rfl rfl rfl) | (apply g_bin; first | exact WT_eql rfl rfl | exact WT_neq rfl rfl) | (apply g_index; first | exact WT_indexa rfl rfl rfl) | (apply g_un; first | exact WT_not rfl)); exact rfl) | (refine WPL_off rfl rfl rfl rfl rfl ?_) | (apply WPL_gt; exact rfl; exact rfl; exact rfl; (first | (apply g_load; first | exact WT_load (k := 0) rfl rfl rfl rfl | exact WT_load (k := 1) rfl rfl rfl rfl) | (apply g_fld; first | exact WT_field rfl rfl rfl) | (apply g_bin; first | exact WT_tne rfl rfl | exact WT_neq rfl rfl) | (apply g_call; first | exact WT_len rfl rfl)); exact rfl) | refine WP_block ?_ | refine WP_skip ?_ | refine WP_ret ?_ | refine WP_cond_t rfl ?_ | refine WP_cond_f rfl ?_ | (apply WPL_op0; exact rfl; first | (apply g_callf; first | (refine WO_call Tryd.func15 rfl hH rfl ?_; rintro _ _ ⟨rfl, rfl⟩)) | (apply g_box; refine WO_box rfl ?_; intro _)) | (refine WPL_case rfl rfl (fun hb => ?_) (fun hb => ?_) <;> (repeat (first | replace hb := dec_t hb | replace hb := dec_f hb | replace hb := not_t hb | replace hb := not_f hb)) <;> (try (exfalso; first | omega))) | (refine WP_cond rfl (fun hb => ?_) (fun hb => ?_) <;> (repeat (first | replace hb := dec_t hb | replace hb := dec_f hb | replace hb := not_t hb | replace hb := not_f hb)) <;> (try (exfalso; first | omega)))))
        all_goals (try (exfalso; first | contradiction | omega))
      · rw [if_neg h2] at hH
        have h5 : y.kind = 5 := by omega
        (repeat' (first | (apply cuts_at 12; exact fin _ _ _ rfl rfl rfl) | refine WP_seq ?_ | refine WP_region ?_ | refine WPL_nil ?_ | (apply WPL_t; (first | exact WT_move rfl | exact WT_assign rfl | exact WT_pick (b := true) rfl (fun _ => rfl) (fun e => by cases e) | exact WT_pick (b := false) rfl (fun e => by cases e) (fun _ => rfl) | (apply g_load; first | exact WT_load (k := 0) rfl rfl rfl rfl | exact WT_load (k := 1) rfl rfl rfl rfl | exact WT_load (k := 2) rfl rfl rfl rfl) | (apply g_fld; first | exact WT_field rfl rfl rfl) | (apply g_bin; first | exact WT_eql rfl rfl | exact WT_neq rfl rfl) | (apply g_index; first | exact WT_indexa rfl rfl rfl) | (apply g_un; first | exact WT_not rfl)); exact rfl) | (refine WPL_off rfl rfl rfl rfl rfl ?_) | (apply WPL_gt; exact rfl; exact rfl; exact rfl; (first | (apply g_load; first | exact WT_load (k := 0) rfl rfl rfl rfl | exact WT_load (k := 1) rfl rfl rfl rfl) | (apply g_fld; first | exact WT_field rfl rfl rfl) | (apply g_bin; first | exact WT_tne rfl rfl | exact WT_neq rfl rfl) | (apply g_call; first | exact WT_len rfl rfl)); exact rfl) | refine WP_block ?_ | refine WP_skip ?_ | refine WP_ret ?_ | refine WP_cond_t rfl ?_ | refine WP_cond_f rfl ?_ | (apply WPL_op0; exact rfl; first | (apply g_callf; first | (refine WO_call Tryd.func15 rfl hH rfl ?_; rintro _ _ ⟨rfl, rfl⟩)) | (apply g_box; refine WO_box rfl ?_; intro _)) | (refine WPL_case rfl rfl (fun hb => ?_) (fun hb => ?_) <;> (repeat (first | replace hb := dec_t hb | replace hb := dec_f hb | replace hb := not_t hb | replace hb := not_f hb)) <;> (try (exfalso; first | omega))) | (refine WP_cond rfl (fun hb => ?_) (fun hb => ?_) <;> (repeat (first | replace hb := dec_t hb | replace hb := dec_f hb | replace hb := not_t hb | replace hb := not_f hb)) <;> (try (exfalso; first | omega)))))
        all_goals (try (exfalso; first | contradiction | omega))
    · (repeat' (first | (apply cuts_at 12; exact fin _ _ _ rfl rfl rfl) | refine WP_seq ?_ | refine WP_region ?_ | refine WPL_nil ?_ | (apply WPL_t; (first | exact WT_move rfl | exact WT_assign rfl | exact WT_pick (b := true) rfl (fun _ => rfl) (fun e => by cases e) | exact WT_pick (b := false) rfl (fun e => by cases e) (fun _ => rfl) | (apply g_load; first | exact WT_load (k := 0) rfl rfl rfl rfl | exact WT_load (k := 1) rfl rfl rfl rfl) | (apply g_fld; first | exact WT_field rfl rfl rfl) | (apply g_bin; first | exact WT_eql rfl rfl | exact WT_neq rfl rfl)); exact rfl) | (refine WPL_off rfl rfl rfl rfl rfl ?_) | (apply WPL_gt; exact rfl; exact rfl; exact rfl; (first | (apply g_load; first | exact WT_load (k := 0) rfl rfl rfl rfl | exact WT_load (k := 1) rfl rfl rfl rfl) | (apply g_fld; first | exact WT_field rfl rfl rfl) | (apply g_bin; first | exact WT_tne rfl rfl | exact WT_neq rfl rfl) | (apply g_call; first | exact WT_len rfl rfl)); exact rfl) | refine WP_block ?_ | refine WP_skip ?_ | refine WP_ret ?_ | refine WP_cond_t rfl ?_ | (apply WPL_op0; exact rfl; first | (apply g_box; refine WO_box rfl ?_; intro _)) | (refine WPL_case rfl rfl (fun hb => ?_) (fun hb => ?_) <;> (repeat (first | replace hb := dec_t hb | replace hb := dec_f hb | replace hb := not_t hb | replace hb := not_f hb)) <;> (try (exfalso; first | omega))) | (refine WP_cond rfl (fun hb => ?_) (fun hb => ?_) <;> (repeat (first | replace hb := dec_t hb | replace hb := dec_f hb | replace hb := not_t hb | replace hb := not_f hb)) <;> (try (exfalso; first | omega)))))
      all_goals (try (exfalso; first | contradiction | omega))
end Go.Proofs.YtjjjblegnjiaoaaDoor
