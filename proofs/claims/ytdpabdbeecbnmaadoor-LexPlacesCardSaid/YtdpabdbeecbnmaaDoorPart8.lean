/- Chapter 03: the law LexPlaces. -/
import Derived.Test.YtdpabdbeecbnmaaDoorPart7
-- STRINGS
-- ROWS
-- PRUNEC
-- IFACE
-- CATT
-- GEFF
namespace Go.Lx
theorem gap_cases {cm : Bool} {c : UInt8} {s : List UInt8} {f : Bool} (h : gapF cm (c :: s) = some f) : (c = 10 ∧ gapF false s = some f) ∨ (c ≠ 10 ∧ cm = true ∧ gapF true s = some f) ∨ (c = 47 ∧ cm = false ∧ s.head? = some 47 ∧ gapF true s = some f) ∨ (c ≠ 10 ∧ c ≠ 47 ∧ cm = false ∧ spaceB c = true ∧ gapF false s = some f) := by
  rw [gapF] at h
  by_cases hc : c = 10
  · have e : cmtF cm c s = false := by unfold cmtF lineB; rw [hc]; rfl
    rw [e, if_neg (by rw [hc]; decide)] at h
    exact .inl ⟨hc, h⟩
  · have hl : lineB c = true := line_ne hc
    cases cm with
    | true =>
      have e : cmtF true c s = true := by unfold cmtF; rw [hl]; rfl
      rw [e, if_neg (by simp)] at h
      exact .inr (.inl ⟨hc, rfl, h⟩)
    | false =>
      by_cases h2 : c = 47 ∧ s.head? = some 47
      · have e : cmtF false c s = true := by unfold cmtF; rw [hl, decide_eq_true h2]; rfl
        rw [e, if_neg (by simp)] at h
        exact .inr (.inr (.inl ⟨h2.1, rfl, h2.2, h⟩))
      · have e : cmtF false c s = false := by unfold cmtF; rw [hl, decide_eq_false h2]; rfl
        rw [e] at h
        cases hs : spaceB c with
        | false => rw [hs] at h; cases h
        | true =>
          rw [hs, if_neg (by simp)] at h
          exact .inr (.inr (.inr ⟨hc, ((class_cases c).2.2.2 hs).2.2.2.2, rfl, rfl, h⟩))
theorem take_drop_cons {s : List UInt8} {j to : Nat} (h : j < to) (hs : j < s.length) : (s.take to).drop j = s[j] :: (s.take to).drop (j + 1) := by
  rw [List.drop_eq_getElem_cons (by rw [List.length_take]; omega), List.getElem_take]
theorem take_drop_head {s : List UInt8} {j to : Nat} (hto : to ≤ s.length) (h : ((s.take to).drop (j + 1)).head? = some 47) : j + 1 < to ∧ ∃ h : j + 1 < s.length, s[j + 1] = 47 := by
  by_cases h1 : j + 1 < to
  · rw [take_drop_cons h1 (by omega)] at h
    exact ⟨h1, by omega, Option.some.inj h⟩
  · rw [List.drop_eq_nil_of_le (by rw [List.length_take]; omega)] at h; cases h
theorem nat_ne {c d : UInt8} (h : c ≠ d) : ¬ (c.toNat : Int) = (d.toNat : Int) := fun e => h (UInt8.toNat_inj.1 (by omega))
theorem places_cons {i : Nat} {s : List UInt8} {t : TokD} {l : List TokD} (hi : i ≤ s.length) (h : placesF i false (s.drop i) (t :: l)) : ∃ to : Nat, t.at_ = (to : Int) ∧ i ≤ to ∧ to ≤ s.length ∧ gapF false ((s.take to).drop i) = some false ∧ 1 ≤ (word t).length ∧ to + (word t).length ≤ s.length ∧ (s.take (to + (word t).length)).drop to = word t ∧ placesF (to + (word t).length) false (s.drop (to + (word t).length)) l := by
  obtain ⟨a, h1, h2, h3, h4, r, h5, h6⟩ := h
  rw [List.length_drop] at h2
  rw [List.drop_drop] at h5
  have hl := congrArg List.length h5
  rw [List.length_drop, List.length_append] at hl
  refine ⟨i + a, h1, by omega, by omega, ?_, List.length_pos_iff.2 h4, by omega, ?_, ?_⟩
  · rw [← h3, List.drop_take, Nat.add_sub_cancel_left]
  · rw [List.drop_take, Nat.add_sub_cancel_left, h5, List.take_left']
    rfl
  · have e : s.drop (i + a + (word t).length) = r := by rw [← List.drop_drop, h5, List.drop_left' rfl]
    rw [e]; exact h6
theorem lex_count {p : Nat} {s : List UInt8} {l : List TokD} (h : lexF p s = .ok l) : l.length ≤ s.length := by
  have h1 := lex_len p s l h
  have h2 := lex_valid p s l h
  have key : ∀ m : List TokD, (∀ t ∈ m, validB t = true) → m.length ≤ (m.map fun t => (word t).length).sum := by
    intro m
    induction m with
    | nil => intro _; exact Nat.zero_le _
    | cons t m ih =>
      intro hm
      have a := ih fun x hx => hm x (List.mem_cons_of_mem _ hx)
      have b := List.length_pos_iff.2 (word_ne (hm t (by simp)))
      simp only [List.length_cons, List.map_cons, List.sum_cons]
      omega
  exact Nat.le_trans (key l h2) h1
end Go.Lx
namespace Go.Proofs.YtdpabdbeecbnmaaDoor
open Go Go.RowKit Go.Kx Go.Fr Go.Lx
set_option maxHeartbeats 1000000 in
set_option maxRecDepth 100000 in
theorem spelled_any (t : TokD) (hv : validB t = true) : FnC Tryd.prog 22 [agg (tokV t)] [] (fun p loc => p = exT (word t) ∧ loc = []) := by
  by_cases h2 : t.kind = 2
  · obtain ⟨hn1, hn2⟩ := valid_num hv h2
    rw [word_num h2]
    unfold tokV
    clear hv
    generalize t.n.toNat = n at hn1 hn2
    rw [← hn1]
    clear hn1
    refine FnC_enter Tryd.func22 rfl Tryd.ntmps22 rfl fun w0 F0 out => ?_
    (repeat' (first | refine WP_seq ?_ | refine WP_region ?_ | refine WPL_nil ?_ | (apply WPL_t; (first | exact WT_assign rfl | (apply g_load; first | exact WT_load (k := 0) rfl rfl rfl rfl) | (apply g_fld; first | exact WT_field rfl rfl rfl) | (apply g_bin; first | exact WT_neq rfl rfl)); exact rfl) | refine WP_block ?_ | refine WP_skip ?_ | (apply WPL_op0; exact rfl; first | (apply g_box; refine WO_box rfl ?_; intro _)) | (refine WP_cond rfl (fun hb => ?_) (fun hb => ?_) <;> (repeat (first | replace hb := dec_t hb | replace hb := dec_f hb | replace hb := not_t hb | replace hb := not_f hb)) <;> (try (exfalso; first | contradiction)))))
    all_goals (try (exfalso; omega))
    refine WP_loop (fun x : Nat × List UInt8 => ([(3, exT x.2), (4, exI .i64 (x.1 : Int))], [])) (fun x => x.1 ≤ 1099511627776 ∧ decF n = decF x.1 ++ x.2 ∧ x.2.length ≤ 20) (fun x => x.1) (n, []) ?_ ⟨hn2, by simp, by simp⟩ fun x hx => ?_
    · exact Leads_env (by repeat (first | exact sub_nil | refine sub_cons rfl ?_)) (List.nil_sublist _)
    obtain ⟨m, e⟩ := x
    obtain ⟨hm, he, hle⟩ := hx
    simp only at hm he hle ⊢
    have hdl := decF_len 12 n (by show _ < 10000000000000; omega)
    by_cases hlt : 10 ≤ m
    · rw [decF_big (n := m) (by omega)] at he
      have hel := congrArg List.length he
      have hne := List.length_pos_iff.2 (decF_ne (m / 10))
      simp only [List.length_append, List.length_cons, List.length_nil] at hel
      (repeat' (first | (apply at_dst 19; refine WPL_frow (k := 0) (E := eByte) (t := 18) [UInt8.ofNat (48 + m % 10)] rfl rfl rfl rfl ?_) | refine WP_seq ?_ | refine WP_region ?_ | refine WPL_nil ?_ | (apply WPL_t; (first | exact WT_move rfl | exact WT_assign rfl | (apply g_bin; first | exact WT_catT rfl rfl | exact WT_lss rfl rfl | exact WT_add rfl rfl | exact WT_rem rfl rfl | exact WT_quo rfl rfl) | (apply g_conv; first | exact WT_convu8 rfl rfl rfl | exact WT_b2s rfl rfl rfl rfl)); exact rfl) | refine WP_block ?_ | refine WP_skip ?_ | (apply WPL_op0; exact rfl; first | (apply g_bslice; (first | refine WO_bslice1 rfl rfl ?_); intro _)) | (refine WP_cond rfl (fun hb => ?_) (fun hb => ?_) <;> (repeat (first | replace hb := dec_t hb | replace hb := dec_f hb)) <;> (try (exfalso; first | omega)))))
      all_goals (try (exfalso; omega))
      exact ⟨(m / 10, [UInt8.ofNat (48 + m % 10)] ++ e), ⟨by show m / 10 ≤ _; omega, by rw [he]; simp, by simp only [List.length_append, List.length_cons, List.length_nil]; omega⟩, by show m / 10 < m; omega, Leads_env (by repeat (first | exact sub_nil | refine sub_cons rfl ?_)) (List.Sublist.refl _)⟩
    · rw [decF_small (n := m) (by omega)] at he
      rw [he]
      (repeat' (first | (apply at_dst 19; refine WPL_frow (k := 0) (E := eByte) (t := 18) [UInt8.ofNat (48 + m % 10)] rfl rfl rfl rfl ?_) | refine WP_seq ?_ | refine WP_region ?_ | refine WPL_nil ?_ | (apply WPL_t; (first | exact WT_move rfl | exact WT_assign rfl | (apply g_bin; first | exact WT_catT rfl rfl | exact WT_lss rfl rfl | exact WT_add rfl rfl | exact WT_rem rfl rfl) | (apply g_conv; first | exact WT_convu8 rfl rfl rfl | exact WT_b2s rfl rfl rfl rfl)); exact rfl) | refine WP_block ?_ | refine WP_ret ?_ | (apply WPL_op0; exact rfl; first | (apply g_bslice; (first | refine WO_bslice1 rfl rfl ?_); intro _)) | (refine WP_cond rfl (fun hb => ?_) (fun hb => ?_) <;> (repeat (first | replace hb := dec_t hb | replace hb := dec_f hb)) <;> (try (exfalso; first | omega)))))
      all_goals (try (exfalso; omega))
      refine ⟨.inr rfl, ret1 rfl (.tmp rfl) (List.nil_sublist _) ⟨?_, rfl⟩⟩
      rw [Nat.mod_eq_of_lt (by omega)]
  · rw [word_text h2]
    unfold tokV
    refine FnC_enter Tryd.func22 rfl Tryd.ntmps22 rfl fun w0 F0 out => ?_
    (repeat' (first | refine WP_seq ?_ | refine WP_region ?_ | refine WPL_nil ?_ | (apply WPL_t; (first | exact WT_assign rfl | (apply g_load; first | exact WT_load (k := 0) rfl rfl rfl rfl) | (apply g_fld; first | exact WT_field rfl rfl rfl) | (apply g_bin; first | exact WT_neq rfl rfl)); exact rfl) | refine WP_ret ?_ | (apply WPL_op0; exact rfl; first | (apply g_box; refine WO_box rfl ?_; intro _)) | (refine WP_cond rfl (fun hb => ?_) (fun hb => ?_) <;> (repeat (first | replace hb := dec_t hb | replace hb := dec_f hb | replace hb := not_t hb | replace hb := not_f hb)) <;> (try (exfalso; first | contradiction)))))
    all_goals (try (exfalso; omega))
    exact ⟨.inr rfl, ret1 rfl (.tmp rfl) (List.nil_sublist _) ⟨rfl, rfl⟩⟩
set_option maxHeartbeats 8000000 in
set_option maxRecDepth 100000 in
theorem lexPlaces_any (s : List UInt8) : FnC Tryd.prog 6 [exT s] [Lab] (fun p loc => p = exB true ∧ loc = []) := by
  by_cases hs : s.length ≤ 3000
  rotate_left
  · refine FnC_enter Tryd.func6 rfl Tryd.ntmps6 rfl fun w0 F0 out => ?_
    (repeat' (first | refine WP_seq ?_ | refine WP_region ?_ | refine WPL_nil ?_ | (apply WPL_t; (first | exact WT_move rfl | exact WT_assign rfl | (apply g_bin; first | exact WT_gtr rfl rfl) | (apply g_call; first | exact WT_lent rfl rfl) | (apply g_un; first | exact WT_not rfl)); exact rfl) | refine WP_skip ?_ | refine WP_ret ?_ | refine WP_cond_f rfl ?_ | (apply WPL_op0; exact rfl; first | (apply g_callf; first | (refine WO_callG (.dup 0 rfl rfl .nil) Tryd.func10 rfl sane3_any rfl ?_; rintro _ _ ⟨rfl, rfl⟩))) | (refine WP_cond rfl (fun hb => ?_) (fun hb => ?_) <;> (repeat (first | replace hb := dec_t hb | replace hb := dec_f hb)) <;> (try (exfalso; first | omega)))))
    all_goals (try (exfalso; first | contradiction | omega))
    all_goals exact ⟨.inr rfl, ret1 rfl (.tmp rfl) (List.nil_sublist _) ⟨rfl, rfl⟩⟩
  have hls := lex3_any s
  rcases lexA_cases s (by omega) with ⟨l, h1, h2⟩ | ⟨p, h1, h2⟩
  rotate_left
  · rw [h2] at hls
    unfold lexV at hls
    clear h1 h2
    refine FnC_enter Tryd.func6 rfl Tryd.ntmps6 rfl fun w0 F0 out => ?_
    (repeat' (first | refine WP_seq ?_ | refine WP_region ?_ | refine WPL_nil ?_ | (apply WPL_t; (first | exact WT_move rfl | exact WT_assign rfl | exact WT_extract rfl rfl | (apply g_bin; first | exact WT_eql rfl rfl | exact WT_neq rfl rfl | exact WT_gtr rfl rfl) | (apply g_call; first | exact WT_lent rfl rfl | exact WT_len rfl rfl) | (apply g_un; first | exact WT_not rfl)); exact rfl) | refine WP_skip ?_ | refine WP_ret ?_ | refine WP_cond_t rfl ?_ | refine WP_cond_f rfl ?_ | (apply WPL_op0; exact rfl; first | (apply g_callf; first | (refine WO_callG (.dup 0 rfl rfl .nil) Tryd.func10 rfl sane3_any rfl ?_; rintro _ _ ⟨rfl, rfl⟩) | (refine WO_callG (.dup 0 rfl rfl .nil) Tryd.func11 rfl hls rfl ?_; rintro _ _ ⟨rfl, rfl⟩))) | (refine WP_cond rfl (fun hb => ?_) (fun hb => ?_) <;> (repeat (first | replace hb := dec_t hb | replace hb := dec_f hb)) <;> (try (exfalso; first | omega)))))
    all_goals (try (exfalso; first | contradiction | omega))
    all_goals exact ⟨.inr rfl, ret1 rfl (.tmp rfl) (List.nil_sublist _) ⟨rfl, rfl⟩⟩
  rw [h2] at hls
  unfold lexV at hls
  clear h2
  have hpl := lex_places 0 s l false h1 fun e => by cases e
  have hval := lex_valid 0 s l h1
  have hcnt := lex_count h1
  clear h1
  refine FnC_enter Tryd.func6 rfl Tryd.ntmps6 rfl fun w0 F0 out => ?_
  (repeat' (first | refine WP_seq ?_ | refine WP_region ?_ | refine WPL_nil ?_ | (apply WPL_t; (first | exact WT_move rfl | exact WT_assign rfl | exact WT_extract rfl rfl | (apply g_bin; first | exact WT_neq rfl rfl | exact WT_gtr rfl rfl) | (apply g_call; first | exact WT_lent rfl rfl) | (apply g_un; first | exact WT_not rfl)); exact rfl) | refine WP_block ?_ | refine WP_skip ?_ | refine WP_cond_f rfl ?_ | (apply WPL_op0; exact rfl; first | (apply g_callf; first | (refine WO_callG (.dup 0 rfl rfl .nil) Tryd.func10 rfl sane3_any rfl ?_; rintro _ _ ⟨rfl, rfl⟩) | (refine WO_callG (.dup 0 rfl rfl .nil) Tryd.func11 rfl hls rfl ?_; rintro _ _ ⟨rfl, rfl⟩))) | (refine WP_cond rfl (fun hb => ?_) (fun hb => ?_) <;> (repeat (first | replace hb := dec_t hb | replace hb := dec_f hb)) <;> (try (exfalso; first | omega)))))
  all_goals (try (exfalso; first | contradiction | omega))
  refine WP_loop (fun x : Nat × Nat => ([(0, exT s), (3, isl eTok l), (6, exI .i64 (x.1 : Int)), (7, exI .i64 (x.2 : Int))], [])) (fun x => x.1 ≤ s.length ∧ x.2 ≤ l.length ∧ placesF x.1 false (s.drop x.1) (l.drop x.2)) (fun x => l.length - x.2) (0, 0) ?_ ⟨Nat.zero_le _, Nat.zero_le _, hpl⟩ fun x hx => ?_
  · exact Leads_env (by repeat (first | exact sub_nil | refine sub_cons rfl ?_)) (List.nil_sublist _)
  obtain ⟨i, k⟩ := x
  obtain ⟨hi, hk, hinv⟩ := hx
  simp only at hi hk hinv ⊢
  clear hpl
  by_cases hlt : k < l.length
  · rw [List.drop_eq_getElem_cons hlt] at hinv
    obtain ⟨to, hat, hto1, hto2, hgap, hw1, hw2, hw3, hnext⟩ := places_cons hi hinv
    have hsl := spelled_any l[k] (hval _ (List.getElem_mem hlt))
    clear hinv hval
    (repeat' (first | refine WP_seq ?_ | refine WP_region ?_ | refine WPL_nil ?_ | (apply WPL_t; (first | exact WT_move rfl | exact WT_assign rfl | exact WT_pick (b := false) rfl (fun e => by cases e) (fun _ => rfl) | (apply g_load; first | exact WT_loadf rfl rfl) | (apply g_fld; first | exact WT_fieldf rfl rfl rfl) | (apply g_bin; first | exact WT_lss rfl rfl | exact WT_leq rfl rfl) | (apply g_index; first | exact WT_index rfl rfl rfl) | (apply g_call; first | exact WT_lent rfl rfl | exact WT_len rfl rfl)); exact rfl) | (apply WPL_gt; exact rfl; exact rfl; exact rfl; (first | exact WT_move rfl | (apply g_bin; first | exact WT_gtr rfl rfl) | (apply g_call; first | exact WT_lent rfl rfl)); exact rfl) | refine WP_block ?_ | refine WP_skip ?_ | (refine WPL_case rfl rfl (fun hb => ?_) (fun hb => ?_) <;> (repeat (first | replace hb := dec_t hb | replace hb := dec_f hb)) <;> (try (exfalso; first | omega))) | (refine WP_cond rfl (fun hb => ?_) (fun hb => ?_) <;> (repeat (first | replace hb := dec_t hb | replace hb := dec_f hb)) <;> (try (exfalso; first | omega)))))
    all_goals (try (exfalso; first | contradiction | omega))
    refine WP_loop (fun y : Nat × Bool => ([(0, exT s), (3, isl eTok l), (6, exI .i64 (y.1 : Int)), (7, exI .i64 (k : Int)), (8, exI .i64 l[k].at_), (9, exB y.2)], [])) (fun y => i ≤ y.1 ∧ y.1 ≤ to ∧ gapF y.2 ((s.take to).drop y.1) = some false) (fun y => to - y.1) (i, false) ?_ ⟨Nat.le_refl _, hto1, hgap⟩ fun y hy => ?_
    · exact Leads_env (by repeat (first | exact sub_nil | refine sub_cons rfl ?_)) (List.Sublist.refl _)
    obtain ⟨j, cm⟩ := y
    obtain ⟨hj1, hj2, hg⟩ := hy
    simp only at hj1 hj2 hg ⊢
    clear hgap
    by_cases hjt : j < to
    · have hjs : j < s.length := by omega
      rw [take_drop_cons hjt hjs] at hg
      rcases gap_cases hg with ⟨c1, g2⟩ | ⟨c1, c2, g2⟩ | ⟨c1, c2, c3, g2⟩ | ⟨c1, c2, c3, c4, g2⟩
      · have hn : (s[j].toNat : Int) = 10 := by rw [c1]; rfl
        have hsp := r3space_any s[j]
        rw [show spaceB s[j] = true by rw [c1]; rfl] at hsp
        clear hg
        (repeat' (first | refine WP_seq ?_ | refine WP_region ?_ | refine WPL_nil ?_ | (apply WPL_t; (first | exact WT_move rfl | exact WT_assign rfl | exact WT_pick (b := true) rfl (fun _ => rfl) (fun e => by cases e) | exact WT_pick (b := false) rfl (fun e => by cases e) (fun _ => rfl) | (apply g_bin; first | exact WT_lss rfl rfl | exact WT_neq rfl rfl | exact WT_add rfl rfl) | (apply g_un; first | exact WT_not rfl) | (apply g_idxt; first | exact WT_idxt rfl rfl rfl)); exact rfl) | (refine WPL_off rfl rfl rfl rfl rfl ?_) | (refine WPL_offu rfl rfl rfl rfl ?_) | (apply WPL_gt; exact rfl; exact rfl; exact rfl; (first | exact WT_move rfl | (apply g_un; first | exact WT_not rfl) | (apply g_idxt; first | exact WT_idxt rfl rfl rfl)); exact rfl) | refine WP_block ?_ | refine WP_skip ?_ | refine WP_cond_f rfl ?_ | (apply WPL_on0; exact rfl; exact rfl; exact rfl; exact rfl; first | (apply g_callf; first | (refine WO_call Tryd.func21 rfl hsp rfl ?_; rintro _ _ ⟨rfl, rfl⟩))) | (refine WPL_case rfl rfl (fun hb => ?_) (fun hb => ?_) <;> (repeat (first | replace hb := dec_t hb | replace hb := dec_f hb | replace hb := not_t hb | replace hb := not_f hb)) <;> (try (exfalso; first | contradiction))) | (refine WP_cond rfl (fun hb => ?_) (fun hb => ?_) <;> (repeat (first | replace hb := dec_t hb | replace hb := dec_f hb)) <;> (try (exfalso; first | omega)))))
        all_goals (try (exfalso; first | contradiction | omega))
        exact ⟨(j + 1, false), ⟨by show i ≤ j + 1; omega, by show j + 1 ≤ to; omega, g2⟩, by show to - (j + 1) < to - j; omega, Leads_env (by repeat (first | exact sub_nil | refine sub_cons rfl ?_)) (List.Sublist.refl _)⟩
      · have hn : ¬ (s[j].toNat : Int) = 10 := nat_ne c1
        subst c2
        clear hg
        (repeat' (first | refine WP_seq ?_ | refine WP_region ?_ | refine WPL_nil ?_ | (apply WPL_t; (first | exact WT_move rfl | exact WT_assign rfl | exact WT_pick (b := true) rfl (fun _ => rfl) (fun e => by cases e) | exact WT_pick (b := false) rfl (fun e => by cases e) (fun _ => rfl) | (apply g_bin; first | exact WT_lss rfl rfl | exact WT_neq rfl rfl | exact WT_add rfl rfl) | (apply g_un; first | exact WT_not rfl) | (apply g_idxt; first | exact WT_idxt rfl rfl rfl)); exact rfl) | (refine WPL_off rfl rfl rfl rfl rfl ?_) | (refine WPL_offu rfl rfl rfl rfl ?_) | (apply WPL_gt; exact rfl; exact rfl; exact rfl; (first | exact WT_move rfl | exact WT_pick (b := true) rfl (fun _ => rfl) (fun e => by cases e)); exact rfl) | refine WP_block ?_ | refine WP_skip ?_ | refine WP_cond_f rfl ?_ | (refine WPL_case rfl rfl (fun hb => ?_) (fun hb => ?_) <;> (repeat (first | replace hb := dec_t hb | replace hb := dec_f hb | replace hb := not_t hb | replace hb := not_f hb)) <;> (try (exfalso; first | contradiction))) | (refine WP_cond rfl (fun hb => ?_) (fun hb => ?_) <;> (repeat (first | replace hb := dec_t hb | replace hb := dec_f hb)) <;> (try (exfalso; first | omega)))))
        all_goals (try (exfalso; first | contradiction | omega))
        exact ⟨(j + 1, true), ⟨by show i ≤ j + 1; omega, by show j + 1 ≤ to; omega, g2⟩, by show to - (j + 1) < to - j; omega, Leads_env (by repeat (first | exact sub_nil | refine sub_cons rfl ?_)) (List.Sublist.refl _)⟩
      · have hn : (s[j].toNat : Int) = 47 := by rw [c1]; rfl
        subst c2
        obtain ⟨c4, c6, c5⟩ := take_drop_head hto2 c3
        have hn2 : (s[j + 1].toNat : Int) = 47 := by rw [c5]; rfl
        clear hg
        (repeat' (first | refine WP_seq ?_ | refine WP_region ?_ | refine WPL_nil ?_ | (apply WPL_t; (first | exact WT_move rfl | exact WT_assign rfl | exact WT_pick (b := true) rfl (fun _ => rfl) (fun e => by cases e) | exact WT_pick (b := false) rfl (fun e => by cases e) (fun _ => rfl) | (apply g_bin; first | exact WT_lss rfl rfl | exact WT_neq rfl rfl | exact WT_add rfl rfl) | (apply g_un; first | exact WT_not rfl) | (apply g_idxt; first | exact WT_idxt rfl rfl rfl)); exact rfl) | (refine WPL_off rfl rfl rfl rfl rfl ?_) | (apply WPL_gt; exact rfl; exact rfl; exact rfl; (first | exact WT_move rfl | exact WT_pick (b := true) rfl (fun _ => rfl) (fun e => by cases e) | exact WT_pick (b := false) rfl (fun e => by cases e) (fun _ => rfl) | (apply g_bin; first | exact WT_lss rfl rfl | exact WT_eql rfl rfl | exact WT_add rfl rfl) | (apply g_idxt; first | exact WT_idxt rfl rfl rfl)); exact rfl) | refine WP_block ?_ | refine WP_skip ?_ | refine WP_cond_f rfl ?_ | (refine WPL_case rfl rfl (fun hb => ?_) (fun hb => ?_) <;> (repeat (first | replace hb := dec_t hb | replace hb := dec_f hb | replace hb := not_t hb | replace hb := not_f hb)) <;> (try (exfalso; first | contradiction | omega))) | (refine WP_cond rfl (fun hb => ?_) (fun hb => ?_) <;> (repeat (first | replace hb := dec_t hb | replace hb := dec_f hb)) <;> (try (exfalso; first | omega)))))
        all_goals (try (exfalso; first | contradiction | omega))
        exact ⟨(j + 1, decide ((s[j + 1].toNat : Int) = 47)), ⟨by show i ≤ j + 1; omega, by show j + 1 ≤ to; omega, by rw [decide_eq_true hn2]; exact g2⟩, by show to - (j + 1) < to - j; omega, Leads_env (by repeat (first | exact sub_nil | refine sub_cons rfl ?_)) (List.Sublist.refl _)⟩
      · have hn : ¬ (s[j].toNat : Int) = 10 := nat_ne c1
        have hn2 : ¬ (s[j].toNat : Int) = 47 := nat_ne c2
        subst c3
        have hsp := r3space_any s[j]
        rw [c4] at hsp
        clear hg
        (repeat' (first | refine WP_seq ?_ | refine WP_region ?_ | refine WPL_nil ?_ | (apply WPL_t; (first | exact WT_move rfl | exact WT_assign rfl | exact WT_pick (b := true) rfl (fun _ => rfl) (fun e => by cases e) | (apply g_bin; first | exact WT_lss rfl rfl | exact WT_neq rfl rfl | exact WT_add rfl rfl) | (apply g_un; first | exact WT_not rfl) | (apply g_idxt; first | exact WT_idxt rfl rfl rfl)); exact rfl) | (refine WPL_off rfl rfl rfl rfl rfl ?_) | (apply WPL_gt; exact rfl; exact rfl; exact rfl; (first | exact WT_move rfl | exact WT_pick (b := false) rfl (fun e => by cases e) (fun _ => rfl) | (apply g_bin; first | exact WT_eql rfl rfl) | (apply g_un; first | exact WT_not rfl) | (apply g_idxt; first | exact WT_idxt rfl rfl rfl)); exact rfl) | refine WP_block ?_ | refine WP_skip ?_ | refine WP_cond_f rfl ?_ | (apply WPL_on0; exact rfl; exact rfl; exact rfl; exact rfl; first | (apply g_callf; first | (refine WO_call Tryd.func21 rfl hsp rfl ?_; rintro _ _ ⟨rfl, rfl⟩))) | (refine WPL_case rfl rfl (fun hb => ?_) (fun hb => ?_) <;> (repeat (first | replace hb := dec_t hb | replace hb := dec_f hb | replace hb := not_t hb | replace hb := not_f hb)) <;> (try (exfalso; first | contradiction))) | (refine WP_cond rfl (fun hb => ?_) (fun hb => ?_) <;> (repeat (first | replace hb := dec_t hb | replace hb := dec_f hb)) <;> (try (exfalso; first | omega)))))
        all_goals (try (exfalso; first | contradiction | omega))
        exact ⟨(j + 1, false), ⟨by show i ≤ j + 1; omega, by show j + 1 ≤ to; omega, g2⟩, by show to - (j + 1) < to - j; omega, Leads_env (by repeat (first | exact sub_nil | refine sub_cons rfl ?_)) (List.Sublist.refl _)⟩
    · rw [show j = to by omega] at hg ⊢
      rw [List.drop_eq_nil_of_le (by rw [List.length_take]; omega)] at hg
      obtain rfl : cm = false := Option.some.inj hg
      clear hg
      generalize hwd : word l[k] = wd at hw1 hw2 hw3 hnext hsl
      rw [hat]
      (repeat' (first | refine WP_seq ?_ | refine WP_region ?_ | refine WPL_nil ?_ | (apply WPL_t; (first | exact WT_move rfl | exact WT_assign rfl | exact WT_pick (b := false) rfl (fun e => by cases e) (fun _ => rfl) | (apply g_load; first | exact WT_loadfa rfl rfl) | (apply g_bin; first | exact WT_lss rfl rfl | exact WT_eql rfl rfl | exact WT_add rfl rfl) | (apply g_index; first | exact WT_index rfl rfl rfl) | (apply g_call; first | exact WT_lent rfl rfl | exact WT_len rfl rfl)); exact rfl) | (apply WPL_gt; exact rfl; exact rfl; exact rfl; (first | exact WT_move rfl | (apply g_bin; first | exact WT_tne rfl rfl | exact WT_eql rfl rfl | exact WT_gtr rfl rfl | exact WT_add rfl rfl) | (apply g_slice; first | exact WT_sslb rfl rfl rfl rfl) | (apply g_call; first | exact WT_lent rfl rfl)); exact rfl) | refine WP_skip ?_ | refine WP_exit ?_ | (apply WPL_op0; exact rfl; first | (apply g_callf; first | (refine WO_call Tryd.func22 rfl hsl rfl ?_; rintro _ _ ⟨rfl, rfl⟩))) | (refine WPL_case rfl rfl (fun hb => ?_) (fun hb => ?_) <;> (repeat (first | replace hb := dec_t hb | replace hb := dec_f hb)) <;> (try (exfalso; first | omega))) | (refine WP_cond rfl (fun hb => ?_) (fun hb => ?_) <;> (repeat (first | replace hb := dec_t hb | replace hb := dec_f hb | replace hb := not_t hb | replace hb := not_f hb)) <;> (try (exfalso; first | contradiction | omega)))))
      all_goals (try (exfalso; first | contradiction | omega))
      exact ⟨(to + wd.length, k + 1), ⟨by show to + wd.length ≤ _; omega, by show k + 1 ≤ _; omega, hnext⟩, by show l.length - (k + 1) < l.length - k; omega, Leads_env (by repeat (first | exact sub_nil | refine sub_cons rfl ?_)) (List.Sublist.refl _)⟩
  · rw [show l.drop k = [] from List.drop_eq_nil_of_le (by omega)] at hinv
    obtain ⟨f, hinv⟩ := hinv
    obtain ⟨to, hto⟩ : ∃ to, to = s.length := ⟨_, rfl⟩
    have hto1 : i ≤ to := by omega
    have hto2 : to ≤ s.length := by omega
    have hgap : gapF false ((s.take to).drop i) = some f := by rw [hto, List.take_length]; exact hinv
    clear hinv hval
    (repeat' (first | refine WP_seq ?_ | refine WP_region ?_ | refine WPL_nil ?_ | (apply WPL_t; (first | exact WT_move rfl | exact WT_assign rfl | exact WT_pick (b := false) rfl (fun e => by cases e) (fun _ => rfl) | (apply g_bin; first | exact WT_lss rfl rfl | exact WT_leq rfl rfl) | (apply g_call; first | exact WT_lent rfl rfl | exact WT_len rfl rfl)); exact rfl) | (apply WPL_gt; exact rfl; exact rfl; exact rfl; (first | exact WT_move rfl | (apply g_bin; first | exact WT_gtr rfl rfl) | (apply g_call; first | exact WT_lent rfl rfl)); exact rfl) | refine WP_block ?_ | refine WP_skip ?_ | (refine WPL_case rfl rfl (fun hb => ?_) (fun hb => ?_) <;> (repeat (first | replace hb := dec_t hb | replace hb := dec_f hb)) <;> (try (exfalso; first | omega))) | (refine WP_cond rfl (fun hb => ?_) (fun hb => ?_) <;> (repeat (first | replace hb := dec_t hb | replace hb := dec_f hb)) <;> (try (exfalso; first | omega)))))
    all_goals (try (exfalso; first | contradiction | omega))
    refine WP_loop (fun y : Nat × Bool => ([(0, exT s), (3, isl eTok l), (6, exI .i64 (y.1 : Int)), (7, exI .i64 (k : Int)), (8, exI .i64 (s.length : Int)), (9, exB y.2)], [])) (fun y => i ≤ y.1 ∧ y.1 ≤ to ∧ gapF y.2 ((s.take to).drop y.1) = some f) (fun y => to - y.1) (i, false) ?_ ⟨Nat.le_refl _, hto1, hgap⟩ fun y hy => ?_
    · exact Leads_env (by repeat (first | exact sub_nil | refine sub_cons rfl ?_)) (List.Sublist.refl _)
    obtain ⟨j, cm⟩ := y
    obtain ⟨hj1, hj2, hg⟩ := hy
    simp only at hj1 hj2 hg ⊢
    clear hgap
    by_cases hjt : j < to
    · have hjs : j < s.length := by omega
      rw [take_drop_cons hjt hjs] at hg
      rcases gap_cases hg with ⟨c1, g2⟩ | ⟨c1, c2, g2⟩ | ⟨c1, c2, c3, g2⟩ | ⟨c1, c2, c3, c4, g2⟩
      · have hn : (s[j].toNat : Int) = 10 := by rw [c1]; rfl
        have hsp := r3space_any s[j]
        rw [show spaceB s[j] = true by rw [c1]; rfl] at hsp
        clear hg
        (repeat' (first | refine WP_seq ?_ | refine WP_region ?_ | refine WPL_nil ?_ | (apply WPL_t; (first | exact WT_move rfl | exact WT_assign rfl | exact WT_pick (b := true) rfl (fun _ => rfl) (fun e => by cases e) | exact WT_pick (b := false) rfl (fun e => by cases e) (fun _ => rfl) | (apply g_bin; first | exact WT_lss rfl rfl | exact WT_neq rfl rfl | exact WT_add rfl rfl) | (apply g_un; first | exact WT_not rfl) | (apply g_idxt; first | exact WT_idxt rfl rfl rfl)); exact rfl) | (refine WPL_off rfl rfl rfl rfl rfl ?_) | (refine WPL_offu rfl rfl rfl rfl ?_) | (apply WPL_gt; exact rfl; exact rfl; exact rfl; (first | exact WT_move rfl | (apply g_un; first | exact WT_not rfl) | (apply g_idxt; first | exact WT_idxt rfl rfl rfl)); exact rfl) | refine WP_block ?_ | refine WP_skip ?_ | refine WP_cond_f rfl ?_ | (apply WPL_on0; exact rfl; exact rfl; exact rfl; exact rfl; first | (apply g_callf; first | (refine WO_call Tryd.func21 rfl hsp rfl ?_; rintro _ _ ⟨rfl, rfl⟩))) | (refine WPL_case rfl rfl (fun hb => ?_) (fun hb => ?_) <;> (repeat (first | replace hb := dec_t hb | replace hb := dec_f hb | replace hb := not_t hb | replace hb := not_f hb)) <;> (try (exfalso; first | contradiction))) | (refine WP_cond rfl (fun hb => ?_) (fun hb => ?_) <;> (repeat (first | replace hb := dec_t hb | replace hb := dec_f hb)) <;> (try (exfalso; first | omega)))))
        all_goals (try (exfalso; first | contradiction | omega))
        exact ⟨(j + 1, false), ⟨by show i ≤ j + 1; omega, by show j + 1 ≤ to; omega, g2⟩, by show to - (j + 1) < to - j; omega, Leads_env (by repeat (first | exact sub_nil | refine sub_cons rfl ?_)) (List.Sublist.refl _)⟩
      · have hn : ¬ (s[j].toNat : Int) = 10 := nat_ne c1
        subst c2
        clear hg
        (repeat' (first | refine WP_seq ?_ | refine WP_region ?_ | refine WPL_nil ?_ | (apply WPL_t; (first | exact WT_move rfl | exact WT_assign rfl | exact WT_pick (b := true) rfl (fun _ => rfl) (fun e => by cases e) | exact WT_pick (b := false) rfl (fun e => by cases e) (fun _ => rfl) | (apply g_bin; first | exact WT_lss rfl rfl | exact WT_neq rfl rfl | exact WT_add rfl rfl) | (apply g_un; first | exact WT_not rfl) | (apply g_idxt; first | exact WT_idxt rfl rfl rfl)); exact rfl) | (refine WPL_off rfl rfl rfl rfl rfl ?_) | (refine WPL_offu rfl rfl rfl rfl ?_) | (apply WPL_gt; exact rfl; exact rfl; exact rfl; (first | exact WT_move rfl | exact WT_pick (b := true) rfl (fun _ => rfl) (fun e => by cases e)); exact rfl) | refine WP_block ?_ | refine WP_skip ?_ | refine WP_cond_f rfl ?_ | (refine WPL_case rfl rfl (fun hb => ?_) (fun hb => ?_) <;> (repeat (first | replace hb := dec_t hb | replace hb := dec_f hb | replace hb := not_t hb | replace hb := not_f hb)) <;> (try (exfalso; first | contradiction))) | (refine WP_cond rfl (fun hb => ?_) (fun hb => ?_) <;> (repeat (first | replace hb := dec_t hb | replace hb := dec_f hb)) <;> (try (exfalso; first | omega)))))
        all_goals (try (exfalso; first | contradiction | omega))
        exact ⟨(j + 1, true), ⟨by show i ≤ j + 1; omega, by show j + 1 ≤ to; omega, g2⟩, by show to - (j + 1) < to - j; omega, Leads_env (by repeat (first | exact sub_nil | refine sub_cons rfl ?_)) (List.Sublist.refl _)⟩
      · have hn : (s[j].toNat : Int) = 47 := by rw [c1]; rfl
        subst c2
        obtain ⟨c4, c6, c5⟩ := take_drop_head hto2 c3
        have hn2 : (s[j + 1].toNat : Int) = 47 := by rw [c5]; rfl
        clear hg
        (repeat' (first | refine WP_seq ?_ | refine WP_region ?_ | refine WPL_nil ?_ | (apply WPL_t; (first | exact WT_move rfl | exact WT_assign rfl | exact WT_pick (b := true) rfl (fun _ => rfl) (fun e => by cases e) | exact WT_pick (b := false) rfl (fun e => by cases e) (fun _ => rfl) | (apply g_bin; first | exact WT_lss rfl rfl | exact WT_neq rfl rfl | exact WT_add rfl rfl) | (apply g_un; first | exact WT_not rfl) | (apply g_idxt; first | exact WT_idxt rfl rfl rfl)); exact rfl) | (refine WPL_off rfl rfl rfl rfl rfl ?_) | (apply WPL_gt; exact rfl; exact rfl; exact rfl; (first | exact WT_move rfl | exact WT_pick (b := true) rfl (fun _ => rfl) (fun e => by cases e) | exact WT_pick (b := false) rfl (fun e => by cases e) (fun _ => rfl) | (apply g_bin; first | exact WT_lss rfl rfl | exact WT_eql rfl rfl | exact WT_add rfl rfl) | (apply g_idxt; first | exact WT_idxt rfl rfl rfl)); exact rfl) | refine WP_block ?_ | refine WP_skip ?_ | refine WP_cond_f rfl ?_ | (refine WPL_case rfl rfl (fun hb => ?_) (fun hb => ?_) <;> (repeat (first | replace hb := dec_t hb | replace hb := dec_f hb | replace hb := not_t hb | replace hb := not_f hb)) <;> (try (exfalso; first | contradiction | omega))) | (refine WP_cond rfl (fun hb => ?_) (fun hb => ?_) <;> (repeat (first | replace hb := dec_t hb | replace hb := dec_f hb)) <;> (try (exfalso; first | omega)))))
        all_goals (try (exfalso; first | contradiction | omega))
        exact ⟨(j + 1, decide ((s[j + 1].toNat : Int) = 47)), ⟨by show i ≤ j + 1; omega, by show j + 1 ≤ to; omega, by rw [decide_eq_true hn2]; exact g2⟩, by show to - (j + 1) < to - j; omega, Leads_env (by repeat (first | exact sub_nil | refine sub_cons rfl ?_)) (List.Sublist.refl _)⟩
      · have hn : ¬ (s[j].toNat : Int) = 10 := nat_ne c1
        have hn2 : ¬ (s[j].toNat : Int) = 47 := nat_ne c2
        subst c3
        have hsp := r3space_any s[j]
        rw [c4] at hsp
        clear hg
        (repeat' (first | refine WP_seq ?_ | refine WP_region ?_ | refine WPL_nil ?_ | (apply WPL_t; (first | exact WT_move rfl | exact WT_assign rfl | exact WT_pick (b := true) rfl (fun _ => rfl) (fun e => by cases e) | (apply g_bin; first | exact WT_lss rfl rfl | exact WT_neq rfl rfl | exact WT_add rfl rfl) | (apply g_un; first | exact WT_not rfl) | (apply g_idxt; first | exact WT_idxt rfl rfl rfl)); exact rfl) | (refine WPL_off rfl rfl rfl rfl rfl ?_) | (apply WPL_gt; exact rfl; exact rfl; exact rfl; (first | exact WT_move rfl | exact WT_pick (b := false) rfl (fun e => by cases e) (fun _ => rfl) | (apply g_bin; first | exact WT_eql rfl rfl) | (apply g_un; first | exact WT_not rfl) | (apply g_idxt; first | exact WT_idxt rfl rfl rfl)); exact rfl) | refine WP_block ?_ | refine WP_skip ?_ | refine WP_cond_f rfl ?_ | (apply WPL_on0; exact rfl; exact rfl; exact rfl; exact rfl; first | (apply g_callf; first | (refine WO_call Tryd.func21 rfl hsp rfl ?_; rintro _ _ ⟨rfl, rfl⟩))) | (refine WPL_case rfl rfl (fun hb => ?_) (fun hb => ?_) <;> (repeat (first | replace hb := dec_t hb | replace hb := dec_f hb | replace hb := not_t hb | replace hb := not_f hb)) <;> (try (exfalso; first | contradiction))) | (refine WP_cond rfl (fun hb => ?_) (fun hb => ?_) <;> (repeat (first | replace hb := dec_t hb | replace hb := dec_f hb)) <;> (try (exfalso; first | omega)))))
        all_goals (try (exfalso; first | contradiction | omega))
        exact ⟨(j + 1, false), ⟨by show i ≤ j + 1; omega, by show j + 1 ≤ to; omega, g2⟩, by show to - (j + 1) < to - j; omega, Leads_env (by repeat (first | exact sub_nil | refine sub_cons rfl ?_)) (List.Sublist.refl _)⟩
    · clear hg
      (repeat' (first | refine WP_seq ?_ | refine WP_region ?_ | refine WPL_nil ?_ | (apply WPL_t; (first | exact WT_move rfl | exact WT_assign rfl | (apply g_bin; first | exact WT_lss rfl rfl | exact WT_eql rfl rfl) | (apply g_call; first | exact WT_len rfl rfl)); exact rfl) | refine WP_ret ?_ | refine WP_exit ?_ | (refine WP_cond rfl (fun hb => ?_) (fun hb => ?_) <;> (repeat (first | replace hb := dec_t hb | replace hb := dec_f hb)) <;> (try (exfalso; first | omega)))))
      all_goals (try (exfalso; first | contradiction | omega))
      exact ⟨.inr rfl, ret1 rfl (.tmp rfl) (List.nil_sublist _) ⟨rfl, rfl⟩⟩
end Go.Proofs.YtdpabdbeecbnmaaDoor
