/- Chapter 03: the laws LexBack, LexWrong. -/
import Derived.Test.YtdpabdbeecbnmaaDoorPart6
-- STRINGS
-- ROWS
-- PRUNEC
-- IFACE
-- GEFF
-- CATT
namespace Go.Lx
theorem joinF_sum : ∀ (l : List (List UInt8)), (∀ w ∈ l, w ≠ []) → (joinF l).length ≤ 2 * (l.map List.length).sum
  | [], _ => Nat.zero_le _
  | [w], _ => by show w.length ≤ _; simp; omega
  | w :: v :: l, h => by
    rw [joinF_cons]
    have h1 := List.length_pos_iff.2 (h w (by simp))
    have h2 := joinF_sum (v :: l) fun x hx => h x (List.mem_cons_of_mem _ hx)
    simp only [List.length_append, List.length_cons, List.map_cons, List.sum_cons] at h2 ⊢
    omega
theorem word_ne {t : TokD} (h : validB t = true) : word t ≠ [] := by
  obtain ⟨c, w, h1, _⟩ := word_step h (b := []) (fun d r e => by cases e)
  rw [h1]; simp
theorem back_src {s : List UInt8} (h : s.length ≤ 3000) : (∃ x, lexA s = (x, 0, 0) ∧ ∃ t, textA x = (t, 0) ∧ ∃ y, lexA t = (y, 0, 0) ∧ sameL x y = true) ∨ ∃ p : Nat, lexA s = ([], (p : Int), 30) := by
  rcases lexA_cases s (by omega) with ⟨x, h1, h2⟩ | ⟨p, h1, h2⟩
  · have hv := lex_valid 0 s x h1
    have ht : textA x = (joinF (x.map word), 0) := textA_yes hv
    have hlen := lex_len 0 s x h1
    have hj := joinF_sum (x.map word) fun w hw => by
      obtain ⟨t, ht, rfl⟩ := List.mem_map.1 hw
      exact word_ne (hv t ht)
    rw [List.map_map] at hj
    have hj : (joinF (x.map word)).length ≤ 2 * (x.map fun t => (word t).length).sum := hj
    obtain ⟨y, h3, h4⟩ := back_text (l := x) (by rw [ht]) (by rw [ht]; show (joinF (x.map word)).length ≤ _; omega)
    rw [ht] at h3
    exact .inl ⟨x, h2, _, ht, y, h3, h4⟩
  · exact .inr ⟨p, h2⟩
theorem back_toks {l : List TokD} (h : l.length ≤ 200) : (∃ t, textA l = (t, 0) ∧ ∃ m, lexA t = (m, 0, 0) ∧ sameL l m = true) ∨ textA l = ([], 30) := by
  by_cases hv : ∀ t ∈ l, validB t = true
  · have ht : textA l = (joinF (l.map word), 0) := textA_yes hv
    have hl := words_len hv
    obtain ⟨y, h3, h4⟩ := back_text (l := l) (by rw [ht]) (by rw [ht]; show (joinF (l.map word)).length ≤ _; omega)
    rw [ht] at h3
    exact .inl ⟨_, ht, y, h3, h4⟩
  · refine .inr ?_
    unfold textA
    rw [if_neg (fun e => hv (List.all_eq_true.1 e))]
theorem wrong_src {s m : List UInt8} (h : s.length + m.length ≤ 3000) : (∃ x, lexA s = (x, 0, 0)) ∨ ∃ p : Nat, lexA s = ([], (p : Int), 30) ∧ p < s.length ∧ (∃ x, lexA (s.take p) = (x, 0, 0)) ∧ lexA (s ++ 32 :: m) = ([], (p : Int), 30) ∧ lexA (s.drop p) = ([], 0, 30) := by
  rcases lexA_cases s (by omega) with ⟨x, h1, h2⟩ | ⟨p, h1, h2⟩
  · exact .inl ⟨x, h2⟩
  · refine .inr ⟨p, h2, ?_⟩
    obtain ⟨-, g1, ⟨x, g2⟩, g3, g4⟩ := lex_wrong 0 s p h1
    rw [Nat.sub_zero] at g1 g2 g4
    refine ⟨g1, ⟨x, ?_⟩, ?_, ?_⟩
    · unfold lexA
      rw [if_neg (by rw [List.length_take]; omega), g2]
    · unfold lexA
      rw [if_neg (by rw [List.length_append, List.length_cons]; omega), g3]
    · unfold lexA
      rw [if_neg (by rw [List.length_drop]; omega), g4]; rfl
end Go.Lx
namespace Go.Proofs.YtdpabdbeecbnmaaDoor
open Go Go.RowKit Go.Kx Go.Fr Go.Lx
set_option maxHeartbeats 4000000 in
set_option maxRecDepth 100000 in
theorem lexBack_any (l : List TokD) (s : List UInt8) : FnC Tryd.prog 5 [isl eTok l, exT s] [Lab] (fun p loc => p = exB true ∧ loc = []) := by
  by_cases hl : l.length ≤ 200
  · by_cases hs : s.length ≤ 3000
    · rcases back_toks hl with ⟨t, e1, m, e2, e3⟩ | e1 <;> rcases back_src hs with ⟨x, f1, u, f2, y, f3, f4⟩ | ⟨p, f1⟩
      · have htl := text3_any l
        rw [e1] at htl
        have hlt := lex3_any t
        rw [e2] at hlt
        have hsl := same3_any l m
        rw [e3] at hsl
        have hls := lex3_any s
        rw [f1] at hls
        have htx := text3_any x
        rw [f2] at htx
        have hlu := lex3_any u
        rw [f3] at hlu
        have hsx := same3_any x y
        rw [f4] at hsx
        clear e1 e2 e3 f1 f2 f3 f4
        unfold textV at htl htx
        unfold lexV at hlt hls hlu
        refine FnC_enter Tryd.func5 rfl Tryd.ntmps5 rfl fun w0 F0 out => ?_
        (repeat' (first | refine WP_seq ?_ | refine WP_region ?_ | refine WPL_nil ?_ | (apply WPL_t; (first | exact WT_move rfl | exact WT_assign rfl | exact WT_pick (b := true) rfl (fun _ => rfl) (fun e => by cases e) | exact WT_pick (b := false) rfl (fun e => by cases e) (fun _ => rfl) | exact WT_extract rfl rfl | (apply g_bin; first | exact WT_eql rfl rfl | exact WT_neq rfl rfl) | (apply g_un; first | exact WT_not rfl)); exact rfl) | (refine WPL_off rfl rfl rfl rfl rfl ?_) | (apply WPL_gt; exact rfl; exact rfl; exact rfl; (first | exact WT_move rfl | (apply g_bin; first | exact WT_eql rfl rfl | exact WT_neq rfl rfl | exact WT_gtr rfl rfl) | (apply g_call; first | exact WT_lent rfl rfl) | (apply g_un; first | exact WT_not rfl)); exact rfl) | refine WP_skip ?_ | refine WP_ret ?_ | refine WP_cond_t rfl ?_ | refine WP_cond_f rfl ?_ | (apply WPL_op0; exact rfl; first | (apply g_callf; first | (refine WO_callG (.dup 0 rfl rfl .nil) Tryd.func10 rfl sane3_any rfl ?_; rintro _ _ ⟨rfl, rfl⟩) | (refine WO_call Tryd.func14 rfl (r3few_any l) rfl ?_; rintro _ _ ⟨⟨ba, rfl, hba⟩, rfl⟩; cases ba <;> (try (exfalso; have := hba rfl; omega))) | (refine WO_callG (.dup 0 rfl rfl .nil) Tryd.func11 rfl hls rfl ?_; rintro _ _ ⟨rfl, rfl⟩) | (refine WO_callG (.dup 0 rfl rfl .nil) Tryd.func11 rfl hlt rfl ?_; rintro _ _ ⟨rfl, rfl⟩) | (refine WO_callG (.dup 0 rfl rfl .nil) Tryd.func11 rfl hlu rfl ?_; rintro _ _ ⟨rfl, rfl⟩) | (refine WO_callG (.dup 0 rfl rfl .nil) Tryd.func15 rfl htl rfl ?_; rintro _ _ ⟨rfl, rfl⟩) | (refine WO_callG (.dup 0 rfl rfl .nil) Tryd.func15 rfl htx rfl ?_; rintro _ _ ⟨rfl, rfl⟩))) | (apply WPL_on0; exact rfl; exact rfl; exact rfl; exact rfl; first | (apply g_callf; first | (refine WO_call Tryd.func17 rfl hsl rfl ?_; rintro _ _ ⟨rfl, rfl⟩) | (refine WO_call Tryd.func17 rfl hsx rfl ?_; rintro _ _ ⟨rfl, rfl⟩))) | (refine WP_cond rfl (fun hb => ?_) (fun hb => ?_) <;> (repeat (first | replace hb := dec_t hb | replace hb := dec_f hb)) <;> (try (exfalso; first | omega)))))
        all_goals (try (exfalso; first | contradiction | omega))
        all_goals exact ⟨.inr rfl, ret1 rfl (.tmp rfl) (List.nil_sublist _) ⟨rfl, rfl⟩⟩
      · have htl := text3_any l
        rw [e1] at htl
        have hlt := lex3_any t
        rw [e2] at hlt
        have hsl := same3_any l m
        rw [e3] at hsl
        have hls := lex3_any s
        rw [f1] at hls
        clear e1 e2 e3 f1
        unfold textV at htl
        unfold lexV at hlt hls
        refine FnC_enter Tryd.func5 rfl Tryd.ntmps5 rfl fun w0 F0 out => ?_
        (repeat' (first | refine WP_seq ?_ | refine WP_region ?_ | refine WPL_nil ?_ | (apply WPL_t; (first | exact WT_move rfl | exact WT_assign rfl | exact WT_pick (b := true) rfl (fun _ => rfl) (fun e => by cases e) | exact WT_pick (b := false) rfl (fun e => by cases e) (fun _ => rfl) | exact WT_extract rfl rfl | (apply g_bin; first | exact WT_eql rfl rfl | exact WT_neq rfl rfl) | (apply g_call; first | exact WT_len rfl rfl) | (apply g_un; first | exact WT_not rfl)); exact rfl) | (refine WPL_off rfl rfl rfl rfl rfl ?_) | (apply WPL_gt; exact rfl; exact rfl; exact rfl; (first | exact WT_move rfl | (apply g_bin; first | exact WT_neq rfl rfl | exact WT_gtr rfl rfl) | (apply g_call; first | exact WT_lent rfl rfl) | (apply g_un; first | exact WT_not rfl)); exact rfl) | refine WP_skip ?_ | refine WP_ret ?_ | refine WP_cond_t rfl ?_ | refine WP_cond_f rfl ?_ | (apply WPL_op0; exact rfl; first | (apply g_callf; first | (refine WO_callG (.dup 0 rfl rfl .nil) Tryd.func10 rfl sane3_any rfl ?_; rintro _ _ ⟨rfl, rfl⟩) | (refine WO_call Tryd.func14 rfl (r3few_any l) rfl ?_; rintro _ _ ⟨⟨ba, rfl, hba⟩, rfl⟩; cases ba <;> (try (exfalso; have := hba rfl; omega))) | (refine WO_callG (.dup 0 rfl rfl .nil) Tryd.func11 rfl hls rfl ?_; rintro _ _ ⟨rfl, rfl⟩) | (refine WO_callG (.dup 0 rfl rfl .nil) Tryd.func11 rfl hlt rfl ?_; rintro _ _ ⟨rfl, rfl⟩) | (refine WO_callG (.dup 0 rfl rfl .nil) Tryd.func15 rfl htl rfl ?_; rintro _ _ ⟨rfl, rfl⟩))) | (apply WPL_on0; exact rfl; exact rfl; exact rfl; exact rfl; first | (apply g_callf; first | (refine WO_call Tryd.func17 rfl hsl rfl ?_; rintro _ _ ⟨rfl, rfl⟩))) | (refine WP_cond rfl (fun hb => ?_) (fun hb => ?_) <;> (repeat (first | replace hb := dec_t hb | replace hb := dec_f hb)) <;> (try (exfalso; first | omega)))))
        all_goals (try (exfalso; first | contradiction | omega))
        all_goals exact ⟨.inr rfl, ret1 rfl (.tmp rfl) (List.nil_sublist _) ⟨rfl, rfl⟩⟩
      · have htl := text3_any l
        rw [e1] at htl
        have hls := lex3_any s
        rw [f1] at hls
        have htx := text3_any x
        rw [f2] at htx
        have hlu := lex3_any u
        rw [f3] at hlu
        have hsx := same3_any x y
        rw [f4] at hsx
        clear e1 f1 f2 f3 f4
        unfold textV at htl htx
        unfold lexV at hls hlu
        refine FnC_enter Tryd.func5 rfl Tryd.ntmps5 rfl fun w0 F0 out => ?_
        (repeat' (first | refine WP_seq ?_ | refine WP_region ?_ | refine WPL_nil ?_ | (apply WPL_t; (first | exact WT_move rfl | exact WT_assign rfl | exact WT_pick (b := true) rfl (fun _ => rfl) (fun e => by cases e) | exact WT_pick (b := false) rfl (fun e => by cases e) (fun _ => rfl) | exact WT_extract rfl rfl | (apply g_bin; first | exact WT_eql rfl rfl | exact WT_neq rfl rfl) | (apply g_un; first | exact WT_not rfl)); exact rfl) | (refine WPL_off rfl rfl rfl rfl rfl ?_) | (apply WPL_gt; exact rfl; exact rfl; exact rfl; (first | exact WT_move rfl | (apply g_bin; first | exact WT_eql rfl rfl | exact WT_gtr rfl rfl) | (apply g_call; first | exact WT_lent rfl rfl)); exact rfl) | refine WP_skip ?_ | refine WP_ret ?_ | refine WP_cond_t rfl ?_ | refine WP_cond_f rfl ?_ | (apply WPL_op0; exact rfl; first | (apply g_callf; first | (refine WO_callG (.dup 0 rfl rfl .nil) Tryd.func10 rfl sane3_any rfl ?_; rintro _ _ ⟨rfl, rfl⟩) | (refine WO_call Tryd.func14 rfl (r3few_any l) rfl ?_; rintro _ _ ⟨⟨ba, rfl, hba⟩, rfl⟩; cases ba <;> (try (exfalso; have := hba rfl; omega))) | (refine WO_callG (.dup 0 rfl rfl .nil) Tryd.func11 rfl hls rfl ?_; rintro _ _ ⟨rfl, rfl⟩) | (refine WO_callG (.dup 0 rfl rfl .nil) Tryd.func11 rfl hlu rfl ?_; rintro _ _ ⟨rfl, rfl⟩) | (refine WO_callG (.dup 0 rfl rfl .nil) Tryd.func15 rfl htl rfl ?_; rintro _ _ ⟨rfl, rfl⟩) | (refine WO_callG (.dup 0 rfl rfl .nil) Tryd.func15 rfl htx rfl ?_; rintro _ _ ⟨rfl, rfl⟩))) | (apply WPL_on0; exact rfl; exact rfl; exact rfl; exact rfl; first | (apply g_callf; first | (refine WO_call Tryd.func17 rfl hsx rfl ?_; rintro _ _ ⟨rfl, rfl⟩))) | (refine WP_cond rfl (fun hb => ?_) (fun hb => ?_) <;> (repeat (first | replace hb := dec_t hb | replace hb := dec_f hb)) <;> (try (exfalso; first | omega)))))
        all_goals (try (exfalso; first | contradiction | omega))
        all_goals exact ⟨.inr rfl, ret1 rfl (.tmp rfl) (List.nil_sublist _) ⟨rfl, rfl⟩⟩
      · have htl := text3_any l
        rw [e1] at htl
        have hls := lex3_any s
        rw [f1] at hls
        clear e1 f1
        unfold textV at htl
        unfold lexV at hls
        refine FnC_enter Tryd.func5 rfl Tryd.ntmps5 rfl fun w0 F0 out => ?_
        (repeat' (first | refine WP_seq ?_ | refine WP_region ?_ | refine WPL_nil ?_ | (apply WPL_t; (first | exact WT_move rfl | exact WT_assign rfl | exact WT_pick (b := true) rfl (fun _ => rfl) (fun e => by cases e) | exact WT_pick (b := false) rfl (fun e => by cases e) (fun _ => rfl) | exact WT_extract rfl rfl | (apply g_bin; first | exact WT_eql rfl rfl | exact WT_neq rfl rfl) | (apply g_call; first | exact WT_len rfl rfl) | (apply g_un; first | exact WT_not rfl)); exact rfl) | (refine WPL_off rfl rfl rfl rfl rfl ?_) | (apply WPL_gt; exact rfl; exact rfl; exact rfl; (first | exact WT_move rfl | (apply g_bin; first | exact WT_gtr rfl rfl) | (apply g_call; first | exact WT_lent rfl rfl)); exact rfl) | refine WP_skip ?_ | refine WP_ret ?_ | refine WP_cond_t rfl ?_ | refine WP_cond_f rfl ?_ | (apply WPL_op0; exact rfl; first | (apply g_callf; first | (refine WO_callG (.dup 0 rfl rfl .nil) Tryd.func10 rfl sane3_any rfl ?_; rintro _ _ ⟨rfl, rfl⟩) | (refine WO_call Tryd.func14 rfl (r3few_any l) rfl ?_; rintro _ _ ⟨⟨ba, rfl, hba⟩, rfl⟩; cases ba <;> (try (exfalso; have := hba rfl; omega))) | (refine WO_callG (.dup 0 rfl rfl .nil) Tryd.func11 rfl hls rfl ?_; rintro _ _ ⟨rfl, rfl⟩) | (refine WO_callG (.dup 0 rfl rfl .nil) Tryd.func15 rfl htl rfl ?_; rintro _ _ ⟨rfl, rfl⟩))) | (refine WP_cond rfl (fun hb => ?_) (fun hb => ?_) <;> (repeat (first | replace hb := dec_t hb | replace hb := dec_f hb)) <;> (try (exfalso; first | omega)))))
        all_goals (try (exfalso; first | contradiction | omega))
        all_goals exact ⟨.inr rfl, ret1 rfl (.tmp rfl) (List.nil_sublist _) ⟨rfl, rfl⟩⟩
    · refine FnC_enter Tryd.func5 rfl Tryd.ntmps5 rfl fun w0 F0 out => ?_
      (repeat' (first | refine WP_seq ?_ | refine WP_region ?_ | refine WPL_nil ?_ | (apply WPL_t; (first | exact WT_move rfl | exact WT_assign rfl | exact WT_pick (b := true) rfl (fun _ => rfl) (fun e => by cases e) | exact WT_pick (b := false) rfl (fun e => by cases e) (fun _ => rfl) | (apply g_un; first | exact WT_not rfl)); exact rfl) | (refine WPL_off rfl rfl rfl rfl rfl ?_) | (apply WPL_gt; exact rfl; exact rfl; exact rfl; (first | exact WT_move rfl | (apply g_bin; first | exact WT_gtr rfl rfl) | (apply g_call; first | exact WT_lent rfl rfl)); exact rfl) | refine WP_skip ?_ | refine WP_ret ?_ | refine WP_cond_t rfl ?_ | refine WP_cond_f rfl ?_ | (apply WPL_op0; exact rfl; first | (apply g_callf; first | (refine WO_callG (.dup 0 rfl rfl .nil) Tryd.func10 rfl sane3_any rfl ?_; rintro _ _ ⟨rfl, rfl⟩) | (refine WO_call Tryd.func14 rfl (r3few_any l) rfl ?_; rintro _ _ ⟨⟨ba, rfl, hba⟩, rfl⟩; cases ba <;> (try (exfalso; have := hba rfl; omega))))) | (refine WP_cond rfl (fun hb => ?_) (fun hb => ?_) <;> (repeat (first | replace hb := dec_t hb | replace hb := dec_f hb)) <;> (try (exfalso; first | omega)))))
      all_goals (try (exfalso; first | contradiction | omega))
      all_goals exact ⟨.inr rfl, ret1 rfl (.tmp rfl) (List.nil_sublist _) ⟨rfl, rfl⟩⟩
  · refine FnC_enter Tryd.func5 rfl Tryd.ntmps5 rfl fun w0 F0 out => ?_
    (repeat' (first | refine WP_seq ?_ | refine WP_region ?_ | refine WPL_nil ?_ | (apply WPL_t; (first | exact WT_move rfl | exact WT_assign rfl | exact WT_pick (b := true) rfl (fun _ => rfl) (fun e => by cases e) | (apply g_un; first | exact WT_not rfl)); exact rfl) | (refine WPL_off rfl rfl rfl rfl rfl ?_) | refine WP_skip ?_ | refine WP_ret ?_ | refine WP_cond_t rfl ?_ | refine WP_cond_f rfl ?_ | (apply WPL_op0; exact rfl; first | (apply g_callf; first | (refine WO_callG (.dup 0 rfl rfl .nil) Tryd.func10 rfl sane3_any rfl ?_; rintro _ _ ⟨rfl, rfl⟩) | (refine WO_call Tryd.func14 rfl (r3few_any l) rfl ?_; rintro _ _ ⟨⟨ba, rfl, hba⟩, rfl⟩; cases ba <;> (try (exfalso; have := hba rfl; omega)))))))
    all_goals (try (exfalso; first | contradiction | omega))
    all_goals exact ⟨.inr rfl, ret1 rfl (.tmp rfl) (List.nil_sublist _) ⟨rfl, rfl⟩⟩
set_option maxHeartbeats 4000000 in
set_option maxRecDepth 100000 in
theorem lexWrong_any (s : List UInt8) (hs0 : s.length ≤ 140737488351232) (m : List UInt8) (hm0 : m.length ≤ 140737488351232) : FnC Tryd.prog 8 [exT s, exT m] [Lab] (fun p loc => p = exB true ∧ loc = []) := by
  by_cases h : s.length + m.length ≤ 3000
  · rcases wrong_src h with ⟨x, f1⟩ | ⟨p, f1, f2, ⟨x, f3⟩, f4, f5⟩
    · have hls := lex3_any s
      rw [f1] at hls
      clear f1
      unfold lexV at hls
      dsimp only at hls
      refine FnC_enter Tryd.func8 rfl Tryd.ntmps8 rfl fun w0 F0 out => ?_
      (repeat' (first | refine WP_seq ?_ | refine WP_region ?_ | refine WPL_nil ?_ | (apply WPL_t; (first | exact WT_move rfl | exact WT_assign rfl | exact WT_extract rfl rfl | (apply g_bin; first | exact WT_eql rfl rfl | exact WT_gtr rfl rfl | exact WT_add rfl rfl) | (apply g_call; first | exact WT_lent rfl rfl) | (apply g_un; first | exact WT_not rfl)); exact rfl) | refine WP_skip ?_ | refine WP_ret ?_ | refine WP_cond_t rfl ?_ | refine WP_cond_f rfl ?_ | (apply WPL_op0; exact rfl; first | (apply g_callf; first | (refine WO_callG (.dup 0 rfl rfl .nil) Tryd.func10 rfl sane3_any rfl ?_; rintro _ _ ⟨rfl, rfl⟩) | (refine WO_callG (.dup 0 rfl rfl .nil) Tryd.func11 rfl hls rfl ?_; rintro _ _ ⟨rfl, rfl⟩))) | (refine WP_cond rfl (fun hb => ?_) (fun hb => ?_) <;> (repeat (first | replace hb := dec_t hb | replace hb := dec_f hb)) <;> (try (exfalso; first | omega)))))
      all_goals (try (exfalso; first | contradiction | omega))
      all_goals exact ⟨.inr rfl, ret1 rfl (.tmp rfl) (List.nil_sublist _) ⟨rfl, rfl⟩⟩
    · have hls := lex3_any s
      rw [f1] at hls
      have hlt := lex3_any (s.take p)
      rw [f3] at hlt
      have hlu := lex3_any (s ++ 32 :: m)
      rw [f4, show s ++ 32 :: m = (s ++ [32]) ++ m by simp] at hlu
      have hlv := lex3_any (s.drop p)
      rw [f5] at hlv
      clear f1 f3 f4 f5
      unfold lexV at hls hlt hlu hlv
      dsimp only at hls hlt hlu hlv
      refine FnC_enter Tryd.func8 rfl Tryd.ntmps8 rfl fun w0 F0 out => ?_
      (repeat' (first | refine WP_seq ?_ | refine WP_region ?_ | refine WPL_nil ?_ | (apply WPL_t; (first | exact WT_move rfl | exact WT_assign rfl | exact WT_pick (b := true) rfl (fun _ => rfl) (fun e => by cases e) | exact WT_pick (b := false) rfl (fun e => by cases e) (fun _ => rfl) | exact WT_extract rfl rfl | (apply g_bin; first | exact WT_catT rfl rfl | exact WT_eql rfl rfl | exact WT_neq rfl rfl | exact WT_gtr rfl rfl | exact WT_add rfl rfl) | (apply g_slice; first | exact WT_ssll rfl rfl rfl | exact WT_sslh rfl rfl rfl) | (apply g_call; first | exact WT_lent rfl rfl) | (apply g_un; first | exact WT_not rfl)); exact rfl) | (apply WPL_gt; exact rfl; exact rfl; exact rfl; (first | exact WT_move rfl | (apply g_bin; first | exact WT_lss rfl rfl | exact WT_eql rfl rfl | exact WT_geq rfl rfl) | (apply g_call; first | exact WT_lent rfl rfl)); exact rfl) | refine WP_skip ?_ | refine WP_ret ?_ | refine WP_cond_f rfl ?_ | (apply WPL_op0; exact rfl; first | (apply g_callf; first | (refine WO_callG (.dup 0 rfl rfl .nil) Tryd.func10 rfl sane3_any rfl ?_; rintro _ _ ⟨rfl, rfl⟩) | (refine WO_callG (.dup 0 rfl rfl .nil) Tryd.func11 rfl hls rfl ?_; rintro _ _ ⟨rfl, rfl⟩) | (refine WO_callG (.dup 0 rfl rfl .nil) Tryd.func11 rfl hlt rfl ?_; rintro _ _ ⟨rfl, rfl⟩) | (refine WO_callG (.dup 0 rfl rfl .nil) Tryd.func11 rfl hlu rfl ?_; rintro _ _ ⟨rfl, rfl⟩) | (refine WO_callG (.dup 0 rfl rfl .nil) Tryd.func11 rfl hlv rfl ?_; rintro _ _ ⟨rfl, rfl⟩))) | (refine WPL_case rfl rfl (fun hb => ?_) (fun hb => ?_) <;> (repeat (first | replace hb := dec_t hb | replace hb := dec_f hb)) <;> (try (exfalso; first | contradiction))) | (refine WP_cond rfl (fun hb => ?_) (fun hb => ?_) <;> (repeat (first | replace hb := dec_t hb | replace hb := dec_f hb)) <;> (try (exfalso; first | omega)))))
      all_goals (try (exfalso; first | contradiction | omega))
      all_goals exact ⟨.inr rfl, ret1 rfl (.tmp rfl) (List.nil_sublist _) ⟨rfl, rfl⟩⟩
  · refine FnC_enter Tryd.func8 rfl Tryd.ntmps8 rfl fun w0 F0 out => ?_
    (repeat' (first | refine WP_seq ?_ | refine WP_region ?_ | refine WPL_nil ?_ | (apply WPL_t; (first | exact WT_move rfl | exact WT_assign rfl | (apply g_bin; first | exact WT_gtr rfl rfl | exact WT_add rfl rfl) | (apply g_call; first | exact WT_lent rfl rfl) | (apply g_un; first | exact WT_not rfl)); exact rfl) | refine WP_skip ?_ | refine WP_ret ?_ | refine WP_cond_f rfl ?_ | (apply WPL_op0; exact rfl; first | (apply g_callf; first | (refine WO_callG (.dup 0 rfl rfl .nil) Tryd.func10 rfl sane3_any rfl ?_; rintro _ _ ⟨rfl, rfl⟩))) | (refine WP_cond rfl (fun hb => ?_) (fun hb => ?_) <;> (repeat (first | replace hb := dec_t hb | replace hb := dec_f hb)) <;> (try (exfalso; first | omega)))))
    all_goals (try (exfalso; first | contradiction | omega))
    all_goals exact ⟨.inr rfl, ret1 rfl (.tmp rfl) (List.nil_sublist _) ⟨rfl, rfl⟩⟩
end Go.Proofs.YtdpabdbeecbnmaaDoor
