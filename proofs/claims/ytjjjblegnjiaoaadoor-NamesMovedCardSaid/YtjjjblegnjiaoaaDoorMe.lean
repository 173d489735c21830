/- The closures of NamesMoved. -/
import Derived.Test.YtjjjblegnjiaoaaDoorMc
import Derived.Test.YtjjjblegnjiaoaaDoorWq
import Derived.Test.YtjjjblegnjiaoaaDoorGi
-- STRINGS
-- ROWS
-- PRUNEC
namespace Go.Proofs.YtjjjblegnjiaoaaDoor
open Go Go.RowKit Go.Kx Go.Fr
set_option maxRecDepth 100000 in
theorem move_any (i j b7 b8 : Nat) (n : Int) : FnC Tryd.prog 19 [exI .i64 n, fpx b7 [exI .i64 (i : Int)], fpx b8 [exI .i64 (j : Int)]] [] (fun p loc => p = exI .i64 (mvI i j n) ∧ loc = []) := by
  refine FnC_enter Tryd.func19 rfl Tryd.ntmps19 rfl fun w0 F0 out => ?_
  unfold mvI
  by_cases h1 : n = i
  · rw [if_pos h1]
    (repeat' (first | refine WP_seq ?_ | refine WP_region ?_ | refine WPL_nil ?_ | (apply WPL_t; (first | exact WT_move rfl | exact WT_assign rfl | (apply g_load; first | exact WT_loadx rfl rfl) | (apply g_bin; first | exact WT_eql rfl rfl)); exact rfl) | refine WP_block ?_ | refine WP_ret ?_ | (refine WP_cond rfl (fun hb => ?_) (fun hb => ?_) <;> (repeat (first | replace hb := dec_t hb | replace hb := dec_f hb)) <;> (try (exfalso; first | contradiction)))))
    all_goals (try (exfalso; first | contradiction | omega))
    all_goals (exact ⟨.inr rfl, ret1 rfl (.tmp rfl) (List.nil_sublist _) ⟨rfl, rfl⟩⟩)
  rw [if_neg h1]
  by_cases h2 : n = j
  · rw [if_pos h2]
    (repeat' (first | refine WP_seq ?_ | refine WP_region ?_ | refine WPL_nil ?_ | (apply WPL_t; (first | exact WT_move rfl | exact WT_assign rfl | (apply g_load; first | exact WT_loadx rfl rfl) | (apply g_bin; first | exact WT_eql rfl rfl)); exact rfl) | refine WP_block ?_ | refine WP_ret ?_ | (refine WP_cond rfl (fun hb => ?_) (fun hb => ?_) <;> (repeat (first | replace hb := dec_t hb | replace hb := dec_f hb)) <;> (try (exfalso; first | contradiction)))))
    all_goals (try (exfalso; first | contradiction | omega))
    all_goals (exact ⟨.inr rfl, ret1 rfl (.tmp rfl) (List.nil_sublist _) ⟨rfl, rfl⟩⟩)
  · rw [if_neg h2]
    (repeat' (first | refine WP_seq ?_ | refine WP_region ?_ | refine WPL_nil ?_ | (apply WPL_t; (first | exact WT_move rfl | exact WT_assign rfl | (apply g_load; first | exact WT_loadx rfl rfl) | (apply g_bin; first | exact WT_eql rfl rfl)); exact rfl) | refine WP_block ?_ | refine WP_skip ?_ | refine WP_ret ?_ | (refine WP_cond rfl (fun hb => ?_) (fun hb => ?_) <;> (repeat (first | replace hb := dec_t hb | replace hb := dec_f hb)) <;> (try (exfalso; first | contradiction)))))
    all_goals (try (exfalso; first | contradiction | omega))
    all_goals (exact ⟨.inr rfl, ret1 rfl (.tmp rfl) (List.nil_sublist _) ⟨rfl, rfl⟩⟩)
set_option maxHeartbeats 1000000 in
set_option maxRecDepth 100000 in
theorem mexpr_any (i j b7 b8 b14 b15 : Nat) : ∀ (k : Nat) (x : Ex), FnC Tryd.prog 20 [agg (exV k x), fpx b14 [clos (.func 19) [fpx b7 [exI .i64 (i : Int)], fpx b8 [exI .i64 (j : Int)]]], fpx b15 [clos (.func 20) [fpx b14 [clos (.func 19) [fpx b7 [exI .i64 (i : Int)], fpx b8 [exI .i64 (j : Int)]]], ex (.pointer (some ⟨b15, 0, none⟩))]]] [] (fun p loc => p = agg (exV k (x.mov i j)) ∧ loc = []) := by
  intro k
  induction k with
  | zero => intro x; exact FnC_says (i := 0) rfl Says_ex0 fun h => h.elim
  | succ k ih =>
    intro x
    refine FnC_says (i := 0) rfl (Says_agg (i := 4) (p := isl (eEx k) x.l) rfl Says_isl) fun hlen => ?_
    rw [Ex.mov_l]
    show FnC Tryd.prog 20 [agg [exI .i64 x.kind, exT x.name, exI .i64 x.n, exI .i64 x.d, isl (eEx k) x.l], fpx b14 [clos (.func 19) [fpx b7 [exI .i64 (i : Int)], fpx b8 [exI .i64 (j : Int)]]], fpx b15 [clos (.func 20) [fpx b14 [clos (.func 19) [fpx b7 [exI .i64 (i : Int)], fpx b8 [exI .i64 (j : Int)]]], ex (.pointer (some ⟨b15, 0, none⟩))]]] [] (fun p loc => p = agg [exI .i64 x.kind, exT x.name, exI .i64 (if x.kind = 2 then mvI i j x.n else x.n), exI .i64 x.d, isl (eEx k) (x.l.map (Ex.mov i j))] ∧ loc = [])
    obtain ⟨hlen, hby⟩ := hlen
    simp only [maxLen] at hlen
    have hby : x.l.length * 64 ≤ 140737488355328 := hby
    have hre : ∀ (q : Nat) (h : q < x.l.length), FnC Tryd.prog 20 [agg (exV k x.l[q]), fpx b14 [clos (.func 19) [fpx b7 [exI .i64 (i : Int)], fpx b8 [exI .i64 (j : Int)]]], fpx b15 [clos (.func 20) [fpx b14 [clos (.func 19) [fpx b7 [exI .i64 (i : Int)], fpx b8 [exI .i64 (j : Int)]]], ex (.pointer (some ⟨b15, 0, none⟩))]]] [] (fun p loc => p = agg (exV k (x.l[q].mov i j)) ∧ loc = []) := fun q h => ih _
    clear ih
    refine FnC_enter Tryd.func20 rfl Tryd.ntmps20 rfl fun w0 F0 out => ?_
    generalize hn0 : (if x.kind = 2 then mvI i j x.n else x.n) = n0
    (repeat' (first | (apply cuts_at 1; refine Stop.out ?_) | refine WP_seq ?_ | refine WP_region ?_ | refine WPL_nil ?_ | (apply WPL_op0; exact rfl; first | (apply g_box; refine WO_box rfl ?_; intro _) | (apply g_alloc; refine WO_alloc ?_; intro _))))
    rename_i b3 b4
    refine ⟨WP_cut (fun _ : Unit => ([(1, fpx b14 [clos (.func 19) [fpx b7 [exI .i64 (i : Int)], fpx b8 [exI .i64 (j : Int)]]]), (2, fpx b15 [clos (.func 20) [fpx b14 [clos (.func 19) [fpx b7 [exI .i64 (i : Int)], fpx b8 [exI .i64 (j : Int)]]], ex (.pointer (some ⟨b15, 0, none⟩))]]), (3, ex (.pointer (some ⟨b3, 0, none⟩))), (4, ex (.pointer (some ⟨b4, 0, none⟩)))], [row b4 47 5 [ex (.int .i64 0), ex (.string .empty), ex (.int .i64 0), ex (.int .i64 0), ex (.slice none 0 0)], row b3 47 5 [exI .i64 x.kind, exT x.name, exI .i64 n0, exI .i64 x.d, isl (eEx k) x.l]])) (fun _ => True) ?_ fun _ _ => ?_⟩
    · by_cases h2 : x.kind = 2
      · rw [if_pos h2] at hn0
        subst hn0
        (repeat' (first | refine WP_seq ?_ | refine WP_region ?_ | refine WPL_nil ?_ | (apply WPL_t; (first | (apply g_load; first | exact WT_loadx rfl rfl | exact WT_load (k := 1) rfl rfl rfl rfl) | (apply g_fld; first | exact WT_field rfl rfl rfl) | (apply g_bin; first | exact WT_eql rfl rfl)); exact rfl) | (apply WPL_op0; exact rfl; first | (apply g_callf; first | (refine WO_callC (args := [_]) rfl (.keep (.keep .nil)) .nil Tryd.func19 rfl (move_any i j b7 b8 _) rfl ?_; rintro _ _ ⟨rfl, rfl⟩)) | (apply g_store; first | refine WO_store (k := 1) (l0 := []) rfl rfl rfl ?_)) | (refine WP_cond rfl (fun hb => ?_) (fun hb => ?_) <;> (repeat (first | replace hb := dec_t hb | replace hb := dec_f hb)) <;> (try (exfalso; first | contradiction)))))
        all_goals (try (exfalso; first | contradiction | omega))
        all_goals exact cut_here () trivial (Leads_env (by repeat (first | exact sub_nil | refine sub_cons rfl ?_)) (List.Sublist.refl _))
      · rw [if_neg h2] at hn0
        subst hn0
        (repeat' (first | refine WP_seq ?_ | refine WP_region ?_ | refine WPL_nil ?_ | (apply WPL_t; (first | (apply g_load; first | exact WT_load (k := 1) rfl rfl rfl rfl) | (apply g_fld; first | exact WT_field rfl rfl rfl) | (apply g_bin; first | exact WT_eql rfl rfl)); exact rfl) | refine WP_skip ?_ | (refine WP_cond rfl (fun hb => ?_) (fun hb => ?_) <;> (repeat (first | replace hb := dec_t hb | replace hb := dec_f hb)) <;> (try (exfalso; first | contradiction)))))
        all_goals (try (exfalso; first | contradiction | omega))
        all_goals exact cut_here () trivial (Leads_env (by repeat (first | exact sub_nil | refine sub_cons rfl ?_)) (List.Sublist.refl _))
    clear hn0
    (repeat' (first | refine WP_seq ?_ | refine WP_region ?_ | refine WPL_nil ?_ | (apply WPL_t; (first | exact WT_move rfl | exact WT_assign rfl | (apply g_load; first | exact WT_load (k := 1) rfl rfl rfl rfl) | (apply g_fld; first | exact WT_field rfl rfl rfl) | (apply g_call; first | exact WT_len rfl rfl)); exact rfl) | refine WP_block ?_))
    refine WP_loop (fun s : Nat × Value => ([(1, fpx b14 [clos (.func 19) [fpx b7 [exI .i64 (i : Int)], fpx b8 [exI .i64 (j : Int)]]]), (2, fpx b15 [clos (.func 20) [fpx b14 [clos (.func 19) [fpx b7 [exI .i64 (i : Int)], fpx b8 [exI .i64 (j : Int)]]], ex (.pointer (some ⟨b15, 0, none⟩))]]), (3, ex (.pointer (some ⟨b3, 0, none⟩))), (4, ex (.pointer (some ⟨b4, 0, none⟩))), (5, ex s.2), (17, isl (eEx k) x.l), (18, exI .i64 (x.l.length : Int)), (19, exI .i64 (s.1 : Int))], [vec s.2 47 5 s.1 (((x.l.take s.1).map (Ex.mov i j)).flatMap (exV k)), row b4 47 5 [ex (.int .i64 0), ex (.string .empty), ex (.int .i64 0), ex (.int .i64 0), ex (.slice none 0 0)], row b3 47 5 [exI .i64 x.kind, exT x.name, exI .i64 n0, exI .i64 x.d, isl (eEx k) x.l]])) (fun s => s.1 ≤ x.l.length) (fun s => x.l.length - s.1) (0, .slice none 0 0) ?_ (Nat.zero_le _) fun s hs => ?_
    · refine (LeadsS_vec_nil (T := 47) (sz := 5)).leads.trans ?_
      simp only [List.take_zero, List.map_nil, List.flatMap_nil]
      exact Leads_env (by repeat (first | exact sub_nil | refine sub_cons rfl ?_)) (List.Sublist.refl _)
    obtain ⟨q, v⟩ := s
    simp only at hs ⊢
    by_cases hlt : q < x.l.length
    · have hcall := hre q hlt
      (repeat' (first | refine WP_seq ?_ | refine WP_region ?_ | refine WPL_nil ?_ | (apply WPL_t; (first | exact WT_move rfl | exact WT_assign rfl | (apply g_load; first | exact WT_loadx rfl rfl | exact WT_loadfa rfl rfl | exact WT_loada2 (k := 0) rfl rfl rfl) | (apply g_bin; first | exact WT_lss rfl rfl | exact WT_add rfl rfl) | (apply g_index; first | exact WT_index rfl rfl rfl)); exact rfl) | refine WP_block ?_ | refine WP_skip ?_ | (apply WPL_op0; exact rfl; first | (apply g_callf; first | (refine WO_callC (args := [_]) rfl (.keep (.slot 2 rfl (fun _ _ _ h => h.1) .nil)) .nil Tryd.func20 rfl hcall rfl ?_; rintro _ _ ⟨rfl, rfl⟩)) | (apply g_alloc; refine WO_alloc ?_; intro _) | (apply g_store; first | refine WO_store (k := 0) (l0 := []) rfl rfl rfl ?_) | (apply g_append; (first | (refine WO_append (k := 2) (l0 := []) rfl rfl (by first | exact Src_rowW (k := 0) rfl rfl) rfl ?_)); intro _) | (apply g_bslice; (first | refine WO_bslice1 rfl rfl ?_); intro _)) | (refine WP_cond rfl (fun hb => ?_) (fun hb => ?_) <;> (repeat (first | replace hb := dec_t hb | replace hb := dec_f hb)) <;> (try (exfalso; first | omega)))))
      all_goals (try (exfalso; first | contradiction | omega))
      all_goals (rename_i v2; refine ⟨(q + 1, v2), by show q + 1 ≤ x.l.length; omega, by show x.l.length - (q + 1) < x.l.length - q; omega, ?_⟩)
      all_goals (simp only [List.take_succ_eq_append_getElem hlt, List.map_append, List.map_cons, List.map_nil, List.flatMap_append, List.flatMap_cons, List.flatMap_nil, List.append_nil])
      all_goals exact Leads_envd 2 (by repeat (first | exact sub_nil | refine sub_cons rfl ?_)) rfl
    · have hk9 : q = x.l.length := by omega
      subst hk9
      rw [List.take_length]
      (repeat' (first | (apply at_store; refine WPL_fvec (k := 0) (E := eEx k) (t := 30) (x.l.map (Ex.mov i j)) rfl rfl rfl (by simp) ?_ (hby := hby)) | refine WP_seq ?_ | refine WP_region ?_ | refine WPL_nil ?_ | (apply WPL_t; (first | exact WT_move rfl | (apply g_load; first | exact WT_loada2 (k := 1) rfl rfl rfl) | (apply g_fld; first | exact WT_field rfl rfl rfl) | (apply g_bin; first | exact WT_lss rfl rfl)); exact rfl) | refine WP_ret ?_ | refine WP_exit ?_ | (apply WPL_op0; exact rfl; first | (apply g_store; first | refine WO_store (k := 0) (l0 := []) rfl rfl rfl ?_ | refine WO_store (k := 1) (l0 := []) rfl rfl rfl ?_)) | (refine WP_cond rfl (fun hb => ?_) (fun hb => ?_) <;> (repeat (first | replace hb := dec_t hb | replace hb := dec_f hb)) <;> (try (exfalso; first | omega)))))
      all_goals (try (exfalso; omega))
      refine ⟨.inr rfl, retw (loc' := []) (by first | exact ret1 rfl (.cella (k := 0) rfl rfl rfl rfl inferInstance rfl) (List.nil_sublist _) ⟨rfl, rfl⟩ | exact ret1 rfl (.cella (k := 1) rfl rfl rfl rfl inferInstance rfl) (List.nil_sublist _) ⟨rfl, rfl⟩) ?_ ⟨rfl, rfl⟩⟩
      exact Im.refl _
end Go.Proofs.YtjjjblegnjiaoaaDoor
