/- shaken and changed of the laws. -/
import Derived.Test.YtjjjblegnjiaoaaDoorPart6
import Derived.Test.YtjjjblegnjiaoaaDoorWp
-- STRINGS
-- ROWS
-- PRUNEC
namespace Go.Fr
open Go.RowKit Go.Kx
theorem WT_subw {C : Cx} {S : (Nat → Prop) → World → World → Prop} {env : Env} {loc : List Ent} {dst : Option Tmp} {ty : TypeId} {pos : String} {af : Array Edge} {g : Option (Nat × Bool)} {x y : Operand} {t u : TypeId} {k : IntKind} {m n : Int} (hx : ev env x = some (exI k m)) (hy : ev env y = some (exI k n)) : WT C S ⟨dst, .binOp .sub t x y u, ty, pos, af, g⟩ (exI k (k.wrap (m - n))) env loc :=
  ⟨fun _ a _ hR => ⟨_, rfl, fun w' _ => by rw [run_bin_int _ _ (ev_eval hR hx) (ev_eval hR hy)]; simp only [binOp, Op.intArith, ne_eq, not_true_eq_false, if_false]; rfl⟩⟩
end Go.Fr
namespace Go.Proofs.YtjjjblegnjiaoaaDoor
open Go Go.RowKit Go.Kx Go.Fr
set_option maxHeartbeats 1000000 in
set_option maxRecDepth 100000 in
theorem shaken_any (m : Int) : ∀ (k : Nat) (x : Ex), FnC Tryd.prog 55 [agg (exV k x), exI .i64 m] [] (fun p loc => p = agg (exV k (x.shk m)) ∧ loc = []) := by
  intro k
  induction k with
  | zero => intro x; exact FnC_says (i := 0) rfl Says_ex0 fun h => h.elim
  | succ k ih =>
    intro x
    refine FnC_says (i := 0) rfl (Says_agg (i := 4) (p := isl (eEx k) x.l) rfl Says_isl) fun hlen => ?_
    rw [Ex.shk_l]
    show FnC Tryd.prog 55 [agg [exI .i64 x.kind, exT x.name, exI .i64 x.n, exI .i64 x.d, isl (eEx k) x.l], exI .i64 m] [] (fun p loc => p = agg [exI .i64 x.kind, exT x.name, exI .i64 (if x.kind = 2 ∨ x.kind = 5 then IntKind.i64.wrap (x.n + m) else x.n), exI .i64 x.d, isl (eEx k) (x.l.map (Ex.shk m))] ∧ loc = [])
    obtain ⟨hlen, hby⟩ := hlen
    simp only [maxLen] at hlen
    have hby : x.l.length * 64 ≤ 140737488355328 := hby
    have hre : ∀ (q : Nat) (h : q < x.l.length), FnC Tryd.prog 55 [agg (exV k x.l[q]), exI .i64 m] [] (fun p loc => p = agg (exV k (x.l[q].shk m)) ∧ loc = []) := fun q h => ih _
    clear ih
    refine FnC_enter Tryd.func55 rfl Tryd.ntmps55 rfl fun w0 F0 out => ?_
    generalize hn0 : (if x.kind = 2 ∨ x.kind = 5 then IntKind.i64.wrap (x.n + m) else x.n) = n0
    (repeat' (first | (apply cuts_at 1; refine Stop.out ?_) | refine WP_seq ?_ | refine WP_region ?_ | refine WPL_nil ?_ | (apply WPL_op0; exact rfl; first | (apply g_box; refine WO_box rfl ?_; intro _) | (apply g_alloc; refine WO_alloc ?_; intro _))))
    rename_i b2 b4
    refine ⟨WP_cut (fun _ : Unit => ([(1, exI .i64 m), (2, ex (.pointer (some ⟨b2, 0, none⟩))), (4, ex (.pointer (some ⟨b4, 0, none⟩)))], [row b4 47 5 [ex (.int .i64 0), ex (.string .empty), ex (.int .i64 0), ex (.int .i64 0), ex (.slice none 0 0)], row b2 47 5 [exI .i64 x.kind, exT x.name, exI .i64 n0, exI .i64 x.d, isl (eEx k) x.l]])) (fun _ => True) ?_ fun _ _ => ?_⟩
    · by_cases h2 : x.kind = 2
      · rw [if_pos (.inl h2)] at hn0
        subst hn0
        (repeat' (first | (apply at_dst 19; apply WPL_t; exact WT_addw rfl rfl; exact rfl) | refine WP_seq ?_ | refine WP_region ?_ | refine WPL_nil ?_ | (apply WPL_t; (first | exact WT_move rfl | exact WT_pick (b := true) rfl (fun _ => rfl) (fun e => by cases e) | (apply g_load; first | exact WT_load (k := 1) rfl rfl rfl rfl) | (apply g_fld; first | exact WT_field rfl rfl rfl) | (apply g_bin; first | exact WT_eql rfl rfl)); exact rfl) | (refine WPL_off rfl rfl rfl rfl rfl ?_) | refine WP_cond_t rfl ?_ | (apply WPL_op0; exact rfl; first | (apply g_store; first | refine WO_store (k := 1) (l0 := []) rfl rfl rfl ?_)) | (refine WPL_case rfl rfl (fun hb => ?_) (fun hb => ?_) <;> (repeat (first | replace hb := dec_t hb | replace hb := dec_f hb)) <;> (try (exfalso; first | contradiction)))))
        all_goals (try (exfalso; first | contradiction | omega))
        all_goals exact cut_here () trivial (Leads_env (by repeat (first | exact sub_nil | refine sub_cons rfl ?_)) (List.Sublist.refl _))
      by_cases h5 : x.kind = 5
      · rw [if_pos (.inr h5)] at hn0
        subst hn0
        (repeat' (first | (apply at_dst 19; apply WPL_t; exact WT_addw rfl rfl; exact rfl) | refine WP_seq ?_ | refine WP_region ?_ | refine WPL_nil ?_ | (apply WPL_t; (first | exact WT_move rfl | exact WT_pick (b := false) rfl (fun e => by cases e) (fun _ => rfl) | (apply g_load; first | exact WT_load (k := 1) rfl rfl rfl rfl) | (apply g_fld; first | exact WT_field rfl rfl rfl) | (apply g_bin; first | exact WT_eql rfl rfl)); exact rfl) | (apply WPL_gt; exact rfl; exact rfl; exact rfl; (first | (apply g_load; first | exact WT_load (k := 1) rfl rfl rfl rfl) | (apply g_fld; first | exact WT_field rfl rfl rfl) | (apply g_bin; first | exact WT_eql rfl rfl)); exact rfl) | (apply WPL_op0; exact rfl; first | (apply g_store; first | refine WO_store (k := 1) (l0 := []) rfl rfl rfl ?_)) | (refine WPL_case rfl rfl (fun hb => ?_) (fun hb => ?_) <;> (repeat (first | replace hb := dec_t hb | replace hb := dec_f hb)) <;> (try (exfalso; first | contradiction))) | (refine WP_cond rfl (fun hb => ?_) (fun hb => ?_) <;> (repeat (first | replace hb := dec_t hb | replace hb := dec_f hb)) <;> (try (exfalso; first | contradiction)))))
        all_goals (try (exfalso; first | contradiction | omega))
        all_goals exact cut_here () trivial (Leads_env (by repeat (first | exact sub_nil | refine sub_cons rfl ?_)) (List.Sublist.refl _))
      · rw [if_neg (by rintro (h | h); exact h2 h; exact h5 h)] at hn0
        subst hn0
        (repeat' (first | refine WP_seq ?_ | refine WP_region ?_ | refine WPL_nil ?_ | (apply WPL_t; (first | exact WT_move rfl | exact WT_pick (b := false) rfl (fun e => by cases e) (fun _ => rfl) | (apply g_load; first | exact WT_load (k := 1) rfl rfl rfl rfl) | (apply g_fld; first | exact WT_field rfl rfl rfl) | (apply g_bin; first | exact WT_eql rfl rfl)); exact rfl) | (apply WPL_gt; exact rfl; exact rfl; exact rfl; (first | (apply g_load; first | exact WT_load (k := 1) rfl rfl rfl rfl) | (apply g_fld; first | exact WT_field rfl rfl rfl) | (apply g_bin; first | exact WT_eql rfl rfl)); exact rfl) | refine WP_skip ?_ | (refine WPL_case rfl rfl (fun hb => ?_) (fun hb => ?_) <;> (repeat (first | replace hb := dec_t hb | replace hb := dec_f hb)) <;> (try (exfalso; first | contradiction))) | (refine WP_cond rfl (fun hb => ?_) (fun hb => ?_) <;> (repeat (first | replace hb := dec_t hb | replace hb := dec_f hb)) <;> (try (exfalso; first | contradiction)))))
        all_goals (try (exfalso; first | contradiction | omega))
        all_goals exact cut_here () trivial (Leads_env (by repeat (first | exact sub_nil | refine sub_cons rfl ?_)) (List.Sublist.refl _))
    clear hn0
    (repeat' (first | refine WP_seq ?_ | refine WP_region ?_ | refine WPL_nil ?_ | (apply WPL_t; (first | exact WT_move rfl | exact WT_assign rfl | (apply g_load; first | exact WT_load (k := 1) rfl rfl rfl rfl) | (apply g_fld; first | exact WT_field rfl rfl rfl) | (apply g_call; first | exact WT_len rfl rfl)); exact rfl) | refine WP_block ?_))
    refine WP_loop (fun s : Nat × Value => ([(1, exI .i64 m), (2, ex (.pointer (some ⟨b2, 0, none⟩))), (4, ex (.pointer (some ⟨b4, 0, none⟩))), (5, ex s.2), (22, isl (eEx k) x.l), (23, exI .i64 (x.l.length : Int)), (24, exI .i64 (s.1 : Int))], [vec s.2 47 5 s.1 (((x.l.take s.1).map (Ex.shk m)).flatMap (exV k)), row b4 47 5 [ex (.int .i64 0), ex (.string .empty), ex (.int .i64 0), ex (.int .i64 0), ex (.slice none 0 0)], row b2 47 5 [exI .i64 x.kind, exT x.name, exI .i64 n0, exI .i64 x.d, isl (eEx k) x.l]])) (fun s => s.1 ≤ x.l.length) (fun s => x.l.length - s.1) (0, .slice none 0 0) ?_ (Nat.zero_le _) fun s hs => ?_
    · refine (LeadsS_vec_nil (T := 47) (sz := 5)).leads.trans ?_
      simp only [List.take_zero, List.map_nil, List.flatMap_nil]
      exact Leads_env (by repeat (first | exact sub_nil | refine sub_cons rfl ?_)) (List.Sublist.refl _)
    obtain ⟨i, v⟩ := s
    simp only at hs ⊢
    by_cases hlt : i < x.l.length
    · have hcall := hre i hlt
      (repeat' (first | refine WP_seq ?_ | refine WP_region ?_ | refine WPL_nil ?_ | (apply WPL_t; (first | exact WT_move rfl | exact WT_assign rfl | (apply g_load; first | exact WT_loadfa rfl rfl | exact WT_loada2 (k := 0) rfl rfl rfl) | (apply g_bin; first | exact WT_lss rfl rfl | exact WT_add rfl rfl) | (apply g_index; first | exact WT_index rfl rfl rfl)); exact rfl) | refine WP_block ?_ | refine WP_skip ?_ | (apply WPL_op0; exact rfl; first | (apply g_callf; first | (refine WO_call Tryd.func55 rfl hcall rfl ?_; rintro _ _ ⟨rfl, rfl⟩)) | (apply g_alloc; refine WO_alloc ?_; intro _) | (apply g_store; first | refine WO_store (k := 0) (l0 := []) rfl rfl rfl ?_) | (apply g_append; (first | (refine WO_append (k := 2) (l0 := []) rfl rfl (by first | exact Src_rowW (k := 0) rfl rfl) rfl ?_)); intro _) | (apply g_bslice; (first | refine WO_bslice1 rfl rfl ?_); intro _)) | (refine WP_cond rfl (fun hb => ?_) (fun hb => ?_) <;> (repeat (first | replace hb := dec_t hb | replace hb := dec_f hb)) <;> (try (exfalso; first | omega)))))
      all_goals (try (exfalso; first | contradiction | omega))
      all_goals (rename_i v2; refine ⟨(i + 1, v2), by show i + 1 ≤ x.l.length; omega, by show x.l.length - (i + 1) < x.l.length - i; omega, ?_⟩)
      all_goals (simp only [List.take_succ_eq_append_getElem hlt, List.map_append, List.map_cons, List.map_nil, List.flatMap_append, List.flatMap_cons, List.flatMap_nil, List.append_nil])
      all_goals exact Leads_envd 2 (by repeat (first | exact sub_nil | refine sub_cons rfl ?_)) rfl
    · have hk9 : i = x.l.length := by omega
      subst hk9
      rw [List.take_length]
      (repeat' (first | (apply at_store; refine WPL_fvec (k := 0) (E := eEx k) (t := 35) (x.l.map (Ex.shk m)) rfl rfl rfl (by simp) ?_ (hby := hby)) | refine WP_seq ?_ | refine WP_region ?_ | refine WPL_nil ?_ | (apply WPL_t; (first | exact WT_move rfl | (apply g_load; first | exact WT_loada2 (k := 1) rfl rfl rfl) | (apply g_fld; first | exact WT_field rfl rfl rfl) | (apply g_bin; first | exact WT_lss rfl rfl)); exact rfl) | refine WP_ret ?_ | refine WP_exit ?_ | (apply WPL_op0; exact rfl; first | (apply g_store; first | refine WO_store (k := 0) (l0 := []) rfl rfl rfl ?_ | refine WO_store (k := 1) (l0 := []) rfl rfl rfl ?_)) | (refine WP_cond rfl (fun hb => ?_) (fun hb => ?_) <;> (repeat (first | replace hb := dec_t hb | replace hb := dec_f hb)) <;> (try (exfalso; first | omega)))))
      all_goals (try (exfalso; omega))
      refine ⟨.inr rfl, retw (loc' := []) (by first | exact ret1 rfl (.cella (k := 0) rfl rfl rfl rfl inferInstance rfl) (List.nil_sublist _) ⟨rfl, rfl⟩ | exact ret1 rfl (.cella (k := 1) rfl rfl rfl rfl inferInstance rfl) (List.nil_sublist _) ⟨rfl, rfl⟩) ?_ ⟨rfl, rfl⟩⟩
      exact Im.refl _
set_option maxHeartbeats 2000000 in
set_option maxRecDepth 100000 in
theorem changed_any (m : Int) (k : Nat) (r : RulesD) (hf : r.few = true) : FnC Tryd.prog 18 [rul k r, exI .i64 m] [] (fun p loc => p = rul k (r.chg m) ∧ loc = []) := by
  obtain ⟨hf1, hf2, hf3, hf4, hf5, hf6, hf7, hf8, hf9⟩ := few_facts hf
  refine FnC_enter Tryd.func18 rfl Tryd.ntmps18 rfl fun w0 F0 out => ?_
  (repeat' (first | refine WP_seq ?_ | refine WP_region ?_ | refine WPL_nil ?_ | (apply WPL_t; (first | exact WT_move rfl | (apply g_load; first | exact WT_load (k := 2) rfl rfl rfl rfl | exact WT_loada2 (k := 1) rfl rfl rfl) | (apply g_fld; first | exact WT_field rfl rfl rfl) | (apply g_call; first | exact WT_len rfl rfl)); exact rfl) | refine WP_block ?_ | (apply WPL_op0; exact rfl; first | (apply g_box; refine WO_box rfl ?_; intro _) | (apply g_alloc; refine WO_alloc ?_; intro _) | (apply g_store; first | refine WO_store (k := 0) (l0 := []) rfl rfl rfl ?_))))
  rename_i b2 b4 b5
  refine WP_loop (fun s : Nat × Value => ([(1, exI .i64 m), (2, ex (.pointer (some ⟨b2, 0, none⟩))), (4, ex (.pointer (some ⟨b4, 0, none⟩))), (5, ex (.pointer (some ⟨b5, 0, none⟩))), (17, isl eTie r.ties), (18, exI .i64 (r.ties.length : Int)), (19, exI .i64 (s.1 : Int))], vec s.2 41 2 s.1 (((r.ties.take s.1).map (RulesD.tieChg m)).flatMap tieV) :: row b5 28 9 [exT r.name, isl eCrit r.crits, isl eItem r.bonus, isl eItem r.malus, ex s.2, ex (.slice none 0 0), isl eI r.prizes, isl eI r.points, exI .i64 r.best] :: [row b4 28 9 [ex (.string .empty), ex (.slice none 0 0), ex (.slice none 0 0), ex (.slice none 0 0), ex (.slice none 0 0), ex (.slice none 0 0), ex (.slice none 0 0), ex (.slice none 0 0), ex (.int .i64 0)], row b2 28 9 (rulesV k r)])) (fun s => s.1 ≤ r.ties.length) (fun s => r.ties.length - s.1) (0, .slice none 0 0) ?_ (Nat.zero_le _) fun s hs => ?_
  · exact Leads_nilv 41 2 (Leads_env (by repeat (first | exact sub_nil | refine sub_cons rfl ?_)) (List.Sublist.refl _))
  obtain ⟨i, v⟩ := s
  simp only at hs ⊢
  by_cases hlt : i < r.ties.length
  · have hkl := hf8 _ (List.getElem_mem hlt)
    (repeat' (first | refine WP_seq ?_ | refine WP_region ?_ | refine WPL_nil ?_ | (apply WPL_t; (first | exact WT_move rfl | exact WT_assign rfl | (apply g_load; first | exact WT_load (k := 0) rfl rfl rfl rfl | exact WT_loadfa rfl rfl) | (apply g_fld; first | exact WT_field rfl rfl rfl) | (apply g_bin; first | exact WT_lss rfl rfl) | (apply g_index; first | exact WT_index rfl rfl rfl) | (apply g_call; first | exact WT_len rfl rfl)); exact rfl) | refine WP_block ?_ | refine WP_skip ?_ | (apply WPL_op0; exact rfl; first | (apply g_alloc; refine WO_alloc ?_; intro _) | (apply g_store; first | refine WO_store (k := 0) (l0 := []) rfl rfl rfl ?_)) | (refine WP_cond rfl (fun hb => ?_) (fun hb => ?_) <;> (repeat (first | replace hb := dec_t hb | replace hb := dec_f hb)) <;> (try (exfalso; first | omega)))))
    all_goals (try (exfalso; omega))
    rename_i b7
    generalize hT : r.ties[i] = T at hkl ⊢
    refine WP_loop (fun s : Nat × Value => ([(1, exI .i64 m), (2, ex (.pointer (some ⟨b2, 0, none⟩))), (4, ex (.pointer (some ⟨b4, 0, none⟩))), (5, ex (.pointer (some ⟨b5, 0, none⟩))), (17, isl eTie r.ties), (18, exI .i64 (r.ties.length : Int)), (19, exI .i64 (i : Int)), (7, ex (.pointer (some ⟨b7, 0, none⟩))), (8, ex s.2), (24, isl eKey T.keys), (25, exI .i64 (T.keys.length : Int)), (26, exI .i64 (s.1 : Int))], vec s.2 43 3 s.1 (((T.keys.take s.1).map (keyChg m)).flatMap keyV) :: row b7 41 2 [exT T.name, isl eKey T.keys] :: vec v 41 2 i (((r.ties.take i).map (RulesD.tieChg m)).flatMap tieV) :: row b5 28 9 [exT r.name, isl eCrit r.crits, isl eItem r.bonus, isl eItem r.malus, ex v, ex (.slice none 0 0), isl eI r.prizes, isl eI r.points, exI .i64 r.best] :: [row b4 28 9 [ex (.string .empty), ex (.slice none 0 0), ex (.slice none 0 0), ex (.slice none 0 0), ex (.slice none 0 0), ex (.slice none 0 0), ex (.slice none 0 0), ex (.slice none 0 0), ex (.int .i64 0)], row b2 28 9 (rulesV k r)])) (fun s => s.1 ≤ T.keys.length) (fun s => T.keys.length - s.1) (0, .slice none 0 0) ?_ (Nat.zero_le _) fun s hq => ?_
    · exact Leads_nilv 43 3 (Leads_env (by repeat (first | exact sub_nil | refine sub_cons rfl ?_)) (List.Sublist.refl _))
    obtain ⟨q, v2⟩ := s
    simp only at hq ⊢
    by_cases hlq : q < T.keys.length
    · (repeat' (first | (apply cuts_at 10; refine Stop.out ?_) | refine WP_seq ?_ | refine WP_region ?_ | refine WPL_nil ?_ | (apply WPL_t; (first | (apply g_load; first | exact WT_loadfa rfl rfl) | (apply g_bin; first | exact WT_lss rfl rfl) | (apply g_index; first | exact WT_index rfl rfl rfl)); exact rfl) | refine WP_block ?_ | refine WP_skip ?_ | (apply WPL_op0; exact rfl; first | (apply g_alloc; refine WO_alloc ?_; intro _) | (apply g_store; first | refine WO_store (k := 0) (l0 := []) rfl rfl rfl ?_)) | (refine WP_cond rfl (fun hb => ?_) (fun hb => ?_) <;> (repeat (first | replace hb := dec_t hb | replace hb := dec_f hb)) <;> (try (exfalso; first | omega)))))
      all_goals (try (exfalso; omega))
      rename_i b10
      generalize hK : T.keys[q] = K
      refine ⟨WP_cut (fun _ : Unit => ([(1, exI .i64 m), (2, ex (.pointer (some ⟨b2, 0, none⟩))), (4, ex (.pointer (some ⟨b4, 0, none⟩))), (5, ex (.pointer (some ⟨b5, 0, none⟩))), (17, isl eTie r.ties), (18, exI .i64 (r.ties.length : Int)), (19, exI .i64 (i : Int)), (7, ex (.pointer (some ⟨b7, 0, none⟩))), (8, ex v2), (10, ex (.pointer (some ⟨b10, 0, none⟩))), (24, isl eKey T.keys), (25, exI .i64 (T.keys.length : Int)), (26, exI .i64 (q : Int))], row b10 43 3 (keyV (keyChg m K)) :: vec v2 43 3 q (((T.keys.take q).map (keyChg m)).flatMap keyV) :: row b7 41 2 [exT T.name, isl eKey T.keys] :: vec v 41 2 i (((r.ties.take i).map (RulesD.tieChg m)).flatMap tieV) :: row b5 28 9 [exT r.name, isl eCrit r.crits, isl eItem r.bonus, isl eItem r.malus, ex v, ex (.slice none 0 0), isl eI r.prizes, isl eI r.points, exI .i64 r.best] :: [row b4 28 9 [ex (.string .empty), ex (.slice none 0 0), ex (.slice none 0 0), ex (.slice none 0 0), ex (.slice none 0 0), ex (.slice none 0 0), ex (.slice none 0 0), ex (.slice none 0 0), ex (.int .i64 0)], row b2 28 9 (rulesV k r)])) (fun _ => True) ?_ fun _ _ => ?_⟩
      · refine WP_leads (env' := [(1, exI .i64 m), (2, ex (.pointer (some ⟨b2, 0, none⟩))), (4, ex (.pointer (some ⟨b4, 0, none⟩))), (5, ex (.pointer (some ⟨b5, 0, none⟩))), (17, isl eTie r.ties), (18, exI .i64 (r.ties.length : Int)), (19, exI .i64 (i : Int)), (7, ex (.pointer (some ⟨b7, 0, none⟩))), (8, ex v2), (10, ex (.pointer (some ⟨b10, 0, none⟩))), (24, isl eKey T.keys), (25, exI .i64 (T.keys.length : Int)), (26, exI .i64 (q : Int))]) (loc' := row b10 43 3 [exI .i64 K.kind, exT K.name, exI .i64 K.n] :: vec v2 43 3 q (((T.keys.take q).map (keyChg m)).flatMap keyV) :: row b7 41 2 [exT T.name, isl eKey T.keys] :: vec v 41 2 i (((r.ties.take i).map (RulesD.tieChg m)).flatMap tieV) :: row b5 28 9 [exT r.name, isl eCrit r.crits, isl eItem r.bonus, isl eItem r.malus, ex v, ex (.slice none 0 0), isl eI r.prizes, isl eI r.points, exI .i64 r.best] :: [row b4 28 9 [ex (.string .empty), ex (.slice none 0 0), ex (.slice none 0 0), ex (.slice none 0 0), ex (.slice none 0 0), ex (.slice none 0 0), ex (.slice none 0 0), ex (.slice none 0 0), ex (.int .i64 0)], row b2 28 9 (rulesV k r)]) (by rw [← hK]; exact Leads_env (by repeat (first | exact sub_nil | refine sub_cons rfl ?_)) (List.Sublist.refl _)) ?_
        have hV : keyV (keyChg m K) = [exI .i64 K.kind, exT K.name, exI .i64 (if K.kind = 1 ∨ K.kind = 2 ∨ K.kind = 5 then IntKind.i64.wrap (K.n - m) else K.n)] := rfl
        rw [hV]
        clear hV hK
        by_cases h1 : K.kind = 1
        · rw [if_pos (.inl h1)]
          (repeat' (first | (apply at_dst 46; apply WPL_t; exact WT_subw rfl rfl; exact rfl) | refine WP_seq ?_ | refine WP_region ?_ | refine WPL_nil ?_ | (apply WPL_t; (first | exact WT_move rfl | exact WT_pick (b := true) rfl (fun _ => rfl) (fun e => by cases e) | (apply g_load; first | exact WT_load (k := 0) rfl rfl rfl rfl) | (apply g_fld; first | exact WT_field rfl rfl rfl) | (apply g_bin; first | exact WT_eql rfl rfl)); exact rfl) | (refine WPL_off rfl rfl rfl rfl rfl ?_) | refine WP_cond_t rfl ?_ | (apply WPL_op0; exact rfl; first | (apply g_store; first | refine WO_store (k := 0) (l0 := []) rfl rfl rfl ?_)) | (refine WPL_case rfl rfl (fun hb => ?_) (fun hb => ?_) <;> (repeat (first | replace hb := dec_t hb | replace hb := dec_f hb)) <;> (try (exfalso; first | contradiction)))))
          all_goals (try (exfalso; first | contradiction | omega))
          all_goals exact cut_here () trivial (Leads_env (by repeat (first | exact sub_nil | refine sub_cons rfl ?_)) (List.Sublist.refl _))
        by_cases h2 : K.kind = 2
        · rw [if_pos (.inr (.inl h2))]
          (repeat' (first | (apply at_dst 46; apply WPL_t; exact WT_subw rfl rfl; exact rfl) | refine WP_seq ?_ | refine WP_region ?_ | refine WPL_nil ?_ | (apply WPL_t; (first | exact WT_move rfl | exact WT_pick (b := true) rfl (fun _ => rfl) (fun e => by cases e) | exact WT_pick (b := false) rfl (fun e => by cases e) (fun _ => rfl) | (apply g_load; first | exact WT_load (k := 0) rfl rfl rfl rfl) | (apply g_fld; first | exact WT_field rfl rfl rfl) | (apply g_bin; first | exact WT_eql rfl rfl)); exact rfl) | (refine WPL_off rfl rfl rfl rfl rfl ?_) | (apply WPL_gt; exact rfl; exact rfl; exact rfl; (first | (apply g_load; first | exact WT_load (k := 0) rfl rfl rfl rfl) | (apply g_fld; first | exact WT_field rfl rfl rfl) | (apply g_bin; first | exact WT_eql rfl rfl)); exact rfl) | refine WP_cond_t rfl ?_ | (apply WPL_op0; exact rfl; first | (apply g_store; first | refine WO_store (k := 0) (l0 := []) rfl rfl rfl ?_)) | (refine WPL_case rfl rfl (fun hb => ?_) (fun hb => ?_) <;> (repeat (first | replace hb := dec_t hb | replace hb := dec_f hb)) <;> (try (exfalso; first | contradiction)))))
          all_goals (try (exfalso; first | contradiction | omega))
          all_goals exact cut_here () trivial (Leads_env (by repeat (first | exact sub_nil | refine sub_cons rfl ?_)) (List.Sublist.refl _))
        by_cases h5 : K.kind = 5
        · rw [if_pos (.inr (.inr h5))]
          (repeat' (first | (apply at_dst 46; apply WPL_t; exact WT_subw rfl rfl; exact rfl) | refine WP_seq ?_ | refine WP_region ?_ | refine WPL_nil ?_ | (apply WPL_t; (first | exact WT_move rfl | exact WT_pick (b := false) rfl (fun e => by cases e) (fun _ => rfl) | (apply g_load; first | exact WT_load (k := 0) rfl rfl rfl rfl) | (apply g_fld; first | exact WT_field rfl rfl rfl) | (apply g_bin; first | exact WT_eql rfl rfl)); exact rfl) | (apply WPL_gt; exact rfl; exact rfl; exact rfl; (first | (apply g_load; first | exact WT_load (k := 0) rfl rfl rfl rfl) | (apply g_fld; first | exact WT_field rfl rfl rfl) | (apply g_bin; first | exact WT_eql rfl rfl)); exact rfl) | (apply WPL_op0; exact rfl; first | (apply g_store; first | refine WO_store (k := 0) (l0 := []) rfl rfl rfl ?_)) | (refine WPL_case rfl rfl (fun hb => ?_) (fun hb => ?_) <;> (repeat (first | replace hb := dec_t hb | replace hb := dec_f hb)) <;> (try (exfalso; first | contradiction))) | (refine WP_cond rfl (fun hb => ?_) (fun hb => ?_) <;> (repeat (first | replace hb := dec_t hb | replace hb := dec_f hb)) <;> (try (exfalso; first | contradiction)))))
          all_goals (try (exfalso; first | contradiction | omega))
          all_goals exact cut_here () trivial (Leads_env (by repeat (first | exact sub_nil | refine sub_cons rfl ?_)) (List.Sublist.refl _))
        · rw [if_neg (by rintro (h | h | h); exact h1 h; exact h2 h; exact h5 h)]
          (repeat' (first | refine WP_seq ?_ | refine WP_region ?_ | refine WPL_nil ?_ | (apply WPL_t; (first | exact WT_move rfl | exact WT_pick (b := false) rfl (fun e => by cases e) (fun _ => rfl) | (apply g_load; first | exact WT_load (k := 0) rfl rfl rfl rfl) | (apply g_fld; first | exact WT_field rfl rfl rfl) | (apply g_bin; first | exact WT_eql rfl rfl)); exact rfl) | (apply WPL_gt; exact rfl; exact rfl; exact rfl; (first | (apply g_load; first | exact WT_load (k := 0) rfl rfl rfl rfl) | (apply g_fld; first | exact WT_field rfl rfl rfl) | (apply g_bin; first | exact WT_eql rfl rfl)); exact rfl) | refine WP_skip ?_ | (refine WPL_case rfl rfl (fun hb => ?_) (fun hb => ?_) <;> (repeat (first | replace hb := dec_t hb | replace hb := dec_f hb)) <;> (try (exfalso; first | contradiction))) | (refine WP_cond rfl (fun hb => ?_) (fun hb => ?_) <;> (repeat (first | replace hb := dec_t hb | replace hb := dec_f hb)) <;> (try (exfalso; first | contradiction)))))
          all_goals (try (exfalso; first | contradiction | omega))
          all_goals exact cut_here () trivial (Leads_env (by repeat (first | exact sub_nil | refine sub_cons rfl ?_)) (List.Sublist.refl _))
      (repeat' (first | refine WP_region ?_ | refine WPL_nil ?_ | (apply WPL_t; (first | exact WT_move rfl | exact WT_assign rfl | (apply g_load; first | exact WT_loada2 (k := 0) rfl rfl rfl) | (apply g_bin; first | exact WT_add rfl rfl)); exact rfl) | (apply WPL_op0; exact rfl; first | (apply g_append; (first | (refine WO_append (k := 2) (l0 := []) rfl rfl (by first | exact Src_rowW (k := 0) rfl rfl) rfl ?_)); intro _) | (apply g_bslice; (first | refine WO_bslice1 rfl rfl ?_); intro _))))
      all_goals (rename_i v3; refine ⟨(q + 1, v3), by show q + 1 ≤ T.keys.length; omega, by show T.keys.length - (q + 1) < T.keys.length - q; omega, ?_⟩)
      all_goals (simp only [List.take_succ_eq_append_getElem hlq, List.map_append, List.map_cons, List.map_nil, List.flatMap_append, List.flatMap_cons, List.flatMap_nil, List.append_nil, hK])
      all_goals exact Leads_envd 2 (by repeat (first | exact sub_nil | refine sub_cons rfl ?_)) rfl
    · have hk9 : q = T.keys.length := by omega
      subst hk9
      rw [List.take_length]
      (repeat' (first | (apply at_dst 57; refine WPL_fvec (k := 0) (E := eKey) (t := 8) (T.keys.map (keyChg m)) rfl rfl rfl (by simp) ?_ (hby := by show _ * 32 ≤ _; omega)) | (apply at_store; refine WPL_vv (k := 2) rfl (by omega) ?_; intro _ _ hv; subst hv) | refine WP_seq ?_ | refine WP_region ?_ | refine WPL_nil ?_ | (apply WPL_t; (first | exact WT_move rfl | (apply g_load; first | exact WT_load (k := 1) rfl rfl rfl rfl | exact WT_load (k := 3) rfl rfl rfl rfl) | (apply g_fld; first | exact WT_field rfl rfl rfl) | (apply g_bin; first | exact WT_lss rfl rfl | exact WT_add rfl rfl) | (apply g_build; first | exact WT_build2 rfl rfl (by repeat (first | exact PartsO.nil | (apply PartsO.cons; exact rfl; exact inferInstance; exact rfl; exact rfl))))); exact rfl) | refine WP_exit ?_ | (apply WPL_op0; exact rfl; first | (apply g_store; first | refine WO_store (k := 3) (l0 := []) rfl rfl rfl ?_) | (apply g_append; (first | (refine WO_append (k := 2) (l0 := []) rfl rfl (by first | exact Src_rowW (k := 0) rfl rfl) rfl ?_)); intro _) | (apply g_bslice; (first | refine WO_bslice1 rfl rfl ?_); intro _)) | (refine WP_cond rfl (fun hb => ?_) (fun hb => ?_) <;> (repeat (first | replace hb := dec_t hb | replace hb := dec_f hb)) <;> (try (exfalso; first | omega)))))
      all_goals (try (exfalso; omega))
      rename_i v3 c3
      refine ⟨(i + 1, .slice (some ⟨v3, 0, none⟩) (i + 1) c3), by show i + 1 ≤ _; omega, by show r.ties.length - (i + 1) < r.ties.length - i; omega, ?_⟩
      simp only [List.take_succ_eq_append_getElem hlt, List.map_append, List.map_cons, List.map_nil, List.flatMap_append, List.flatMap_cons, List.flatMap_nil, List.append_nil, hT]
      exact Leads_envd 2 (by repeat (first | exact sub_nil | refine sub_cons rfl ?_)) rfl
  · have hk9 : i = r.ties.length := by omega
    subst hk9
    rw [List.take_length]
    (repeat' (first | (apply cuts_at 16; refine Stop.out ?_) | refine WP_seq ?_ | refine WP_region ?_ | refine WPL_nil ?_ | (apply WPL_t; (first | (apply g_bin; first | exact WT_lss rfl rfl)); exact rfl) | refine WP_exit ?_ | (refine WP_cond rfl (fun hb => ?_) (fun hb => ?_) <;> (repeat (first | replace hb := dec_t hb | replace hb := dec_f hb)) <;> (try (exfalso; first | omega)))))
    all_goals (try (exfalso; omega))
    constructor
    apply WP_leads
    · exact Leads_fcell (j := 0) (k := 0) (i := 4) (E := eTie) (r.ties.map (RulesD.tieChg m)) rfl rfl rfl (by simp) rfl rfl (hby := by show _ * 40 ≤ _; omega)
    (repeat' (first | refine WP_seq ?_ | refine WP_region ?_ | refine WPL_nil ?_ | (apply WPL_t; (first | exact WT_move rfl | (apply g_load; first | exact WT_load (k := 2) rfl rfl rfl rfl) | (apply g_fld; first | exact WT_field rfl rfl rfl) | (apply g_call; first | exact WT_len rfl rfl)); exact rfl) | refine WP_block ?_))
    refine WP_loop (fun s : Nat × Value => ([(1, exI .i64 m), (2, ex (.pointer (some ⟨b2, 0, none⟩))), (4, ex (.pointer (some ⟨b4, 0, none⟩))), (5, ex (.pointer (some ⟨b5, 0, none⟩))), (64, isl (eRound k) r.rounds), (65, exI .i64 (r.rounds.length : Int)), (66, exI .i64 (s.1 : Int))], vec s.2 49 13 s.1 (((r.rounds.take s.1).map (RulesD.roundChg m)).flatMap (roundV k)) :: row b5 28 9 [exT r.name, isl eCrit r.crits, isl eItem r.bonus, isl eItem r.malus, isl eTie (r.ties.map (RulesD.tieChg m)), ex s.2, isl eI r.prizes, isl eI r.points, exI .i64 r.best] :: [row b4 28 9 [ex (.string .empty), ex (.slice none 0 0), ex (.slice none 0 0), ex (.slice none 0 0), ex (.slice none 0 0), ex (.slice none 0 0), ex (.slice none 0 0), ex (.slice none 0 0), ex (.int .i64 0)], row b2 28 9 (rulesV k r)])) (fun s => s.1 ≤ r.rounds.length) (fun s => r.rounds.length - s.1) (0, .slice none 0 0) ?_ (Nat.zero_le _) fun s hs => ?_
    · exact Leads_nilv 49 13 (Leads_env (by repeat (first | exact sub_nil | refine sub_cons rfl ?_)) (List.Sublist.refl _))
    obtain ⟨i, v⟩ := s
    simp only at hs ⊢
    by_cases hlt : i < r.rounds.length
    · have hcall := shaken_any m k r.rounds[i].score
      (repeat' (first | (apply at_region 20; refine Stop.out ?_) | refine WP_seq ?_ | refine WP_region ?_ | refine WPL_nil ?_ | (apply WPL_t; (first | exact WT_move rfl | (apply g_load; first | exact WT_loadfa rfl rfl | exact WT_loada2 (k := 0) rfl rfl rfl) | (apply g_fld; first | exact WT_field rfl rfl rfl) | (apply g_bin; first | exact WT_lss rfl rfl) | (apply g_index; first | exact WT_index rfl rfl rfl)); exact rfl) | refine WP_block ?_ | refine WP_skip ?_ | (apply WPL_op0; exact rfl; first | (apply g_callf; first | (refine WO_call Tryd.func55 rfl hcall rfl ?_; rintro _ _ ⟨rfl, rfl⟩)) | (apply g_alloc; refine WO_alloc ?_; intro _) | (apply g_store; first | refine WO_store (k := 0) (l0 := []) rfl rfl rfl ?_)) | (refine WP_cond rfl (fun hb => ?_) (fun hb => ?_) <;> (repeat (first | replace hb := dec_t hb | replace hb := dec_f hb)) <;> (try (exfalso; first | omega)))))
      all_goals (try (exfalso; omega))
      rename_i b12
      constructor
      refine WP_leads (env' := [(1, exI .i64 m), (2, ex (.pointer (some ⟨b2, 0, none⟩))), (4, ex (.pointer (some ⟨b4, 0, none⟩))), (5, ex (.pointer (some ⟨b5, 0, none⟩))), (64, isl (eRound k) r.rounds), (65, exI .i64 (r.rounds.length : Int)), (66, exI .i64 (i : Int)), (12, ex (.pointer (some ⟨b12, 0, none⟩)))]) (loc' := row b12 49 13 (roundV k (RulesD.roundChg m r.rounds[i])) :: vec v 49 13 i (((r.rounds.take i).map (RulesD.roundChg m)).flatMap (roundV k)) :: row b5 28 9 [exT r.name, isl eCrit r.crits, isl eItem r.bonus, isl eItem r.malus, isl eTie (r.ties.map (RulesD.tieChg m)), ex v, isl eI r.prizes, isl eI r.points, exI .i64 r.best] :: [row b4 28 9 [ex (.string .empty), ex (.slice none 0 0), ex (.slice none 0 0), ex (.slice none 0 0), ex (.slice none 0 0), ex (.slice none 0 0), ex (.slice none 0 0), ex (.slice none 0 0), ex (.int .i64 0)], row b2 28 9 (rulesV k r)]) (Leads_env (by repeat (first | exact sub_nil | refine sub_cons rfl ?_)) (List.Sublist.refl _)) ?_
      (repeat' (first | (apply at_store; refine WPL_vv (k := 2) rfl (by omega) ?_; intro _ _ hv; subst hv) | refine WP_region ?_ | refine WPL_nil ?_ | (apply WPL_t; (first | exact WT_move rfl | (apply g_load; first | exact WT_load (k := 2) rfl rfl rfl rfl | exact WT_loada2 (k := 0) rfl rfl rfl) | (apply g_fld; first | exact WT_field rfl rfl rfl) | (apply g_bin; first | exact WT_add rfl rfl)); exact rfl) | (apply WPL_op0; exact rfl; first | (apply g_store; first | refine WO_store (k := 3) (l0 := []) rfl rfl rfl ?_) | (apply g_append; (first | (refine WO_append (k := 2) (l0 := []) rfl rfl (by first | exact Src_rowW (k := 0) rfl rfl) rfl ?_)); intro _) | (apply g_bslice; (first | refine WO_bslice1 rfl rfl ?_); intro _))))
      rename_i v3 c3
      refine ⟨(i + 1, .slice (some ⟨v3, 0, none⟩) (i + 1) c3), by show i + 1 ≤ _; omega, by show r.rounds.length - (i + 1) < r.rounds.length - i; omega, ?_⟩
      simp only [List.take_succ_eq_append_getElem hlt, List.map_append, List.map_cons, List.map_nil, List.flatMap_append, List.flatMap_cons, List.flatMap_nil, List.append_nil]
      exact Leads_envd 2 (by repeat (first | exact sub_nil | refine sub_cons rfl ?_)) rfl
    · have hk9 : i = r.rounds.length := by omega
      subst hk9
      rw [List.take_length]
      (repeat' (first | (apply cut_at 22; refine Stop.out ?_) | refine WP_seq ?_ | refine WP_region ?_ | refine WPL_nil ?_ | (apply WPL_t; (first | (apply g_bin; first | exact WT_lss rfl rfl)); exact rfl) | refine WP_exit ?_ | (refine WP_cond rfl (fun hb => ?_) (fun hb => ?_) <;> (repeat (first | replace hb := dec_t hb | replace hb := dec_f hb)) <;> (try (exfalso; first | omega)))))
      all_goals (try (exfalso; omega))
      constructor
      apply WP_leads
      · exact Leads_fcell (j := 0) (k := 0) (i := 5) (E := eRound k) (r.rounds.map (RulesD.roundChg m)) rfl rfl rfl (by simp) rfl rfl (hby := by show _ * 136 ≤ _; omega)
      (repeat' (first | refine WP_seq ?_ | refine WP_region ?_ | refine WPL_nil ?_ | (apply WPL_t; (first | (apply g_load; first | exact WT_loada2 (k := 0) rfl rfl rfl)); exact rfl) | refine WP_ret ?_ | (apply WPL_op0; exact rfl; first | (apply g_store; first | refine WO_store (k := 1) (l0 := []) rfl rfl rfl ?_))))
      refine ⟨.inr rfl, retw (loc' := []) (by first | exact ret1 rfl (.cella (k := 0) rfl rfl rfl rfl inferInstance rfl) (List.nil_sublist _) ⟨rfl, rfl⟩ | exact ret1 rfl (.cella (k := 1) rfl rfl rfl rfl inferInstance rfl) (List.nil_sublist _) ⟨rfl, rfl⟩) ?_ ⟨rfl, rfl⟩⟩
      exact Im.refl _
end Go.Proofs.YtjjjblegnjiaoaaDoor
