/- podiumref03.Lex. -/
import Derived.Test.YtdpabdbeecbnmaaDoorPart4
import Derived.Test.YtdpabdbeecbnmaaDoorPart5
-- STRINGS
-- ROWS
-- PRUNEC
-- IFACE
namespace Go.Proofs.YtdpabdbeecbnmaaDoor
open Go Go.RowKit Go.Kx Go.Fr Go.Lx
def lexV (z : List TokD × Int × Int) : SP := tup [isl eTok z.1, exI .i64 z.2.1, exI .i64 z.2.2]
set_option maxHeartbeats 4000000 in
set_option maxRecDepth 100000 in
theorem r3lex_any (s : List UInt8) : FnC Tryd.prog 12 [exT s] [] (fun p loc => p = lexV (lexA s) ∧ loc = []) := by
  refine FnC_enter Tryd.func12 rfl Tryd.ntmps12 rfl fun w0 F0 out => ?_
  unfold lexA lexV
  by_cases hmx : 65536 < s.length
  · rw [if_pos hmx]
    (repeat' (first | refine WP_seq ?_ | refine WP_region ?_ | refine WPL_nil ?_ | (apply WPL_t; (first | exact WT_move rfl | exact WT_assign rfl | (apply g_bin; first | exact WT_gtr rfl rfl) | (apply g_call; first | exact WT_lent rfl rfl)); exact rfl) | refine WP_ret ?_ | (refine WP_cond rfl (fun hb => ?_) (fun hb => ?_) <;> (repeat (first | replace hb := dec_t hb | replace hb := dec_f hb)) <;> (try (exfalso; first | omega)))))
    all_goals (try (exfalso; omega))
    refine ⟨.inr rfl, retw (loc' := []) (ret3 rfl (.tmp rfl) (.tmp rfl) (.tmp rfl) (List.nil_sublist _) ⟨rfl, rfl⟩) ?_ ⟨rfl, rfl⟩⟩
    exact Ims.tup (.cons Im.nil (.cons (Im.refl _) (.cons (Im.refl _) .nil)))
  rw [if_neg hmx]
  have hmax : s.length ≤ 65536 := by omega
  (repeat' (first | refine WP_seq ?_ | refine WP_region ?_ | refine WPL_nil ?_ | (apply WPL_t; (first | exact WT_move rfl | exact WT_assign rfl | (apply g_bin; first | exact WT_gtr rfl rfl) | (apply g_call; first | exact WT_lent rfl rfl)); exact rfl) | refine WP_block ?_ | refine WP_skip ?_ | (apply WPL_op0; exact rfl; first | (apply g_bslice; (first | refine WO_bslice0 rfl ?_); intro _)) | (refine WP_cond rfl (fun hb => ?_) (fun hb => ?_) <;> (repeat (first | replace hb := dec_t hb | replace hb := dec_f hb)) <;> (try (exfalso; first | omega)))))
  all_goals (try (exfalso; omega))
  rename_i b5
  refine WP_loop (fun x : Nat × Value × List TokD => ([(0, exT s), (5, ex x.2.1), (6, exI .i64 (x.1 : Int))], [vec x.2.1 35 4 x.2.2.length (x.2.2.flatMap tokV)])) (fun x => x.1 ≤ s.length ∧ x.2.2.length ≤ x.1 ∧ lexF 0 s = (lexF x.1 (s.drop x.1)).map (x.2.2 ++ ·)) (fun x => s.length - x.1) (0, .slice (some ⟨b5, 0, none⟩) 0 0, []) ?_ ⟨Nat.zero_le _, Nat.le_refl _, ?_⟩ fun x hx => ?_
  · refine Leads_row_vec (k := 0) (sz := 4) (n := 0) (c := 0) rfl rfl rfl (by decide) (by decide) ?_
    exact Leads_env (by repeat (first | exact sub_nil | refine sub_cons rfl ?_)) (List.Sublist.refl _)
  · show lexF 0 s = (lexF 0 s).map ([] ++ ·)
    cases lexF 0 s <;> rfl
  obtain ⟨i, v, acc⟩ := x
  obtain ⟨hi, hacc, hinv⟩ := hx
  simp only at hi hacc hinv ⊢
  by_cases hlt : i < s.length
  · have hsp := r3space_any s[i]
    have hle := letter_any s[i]
    have hfi := figure_any s[i]
    have hsg := r3sign_any s[i]
    rw [letterF_eq] at hle
    rw [figureF_eq] at hfi
    have hd : s.drop i = s[i] :: s.drop (i + 1) := List.drop_eq_getElem_cons hlt
    have hst := step_is s[i] (s.drop (i + 1))
    generalize hr0 : Lx.step (s[i] :: s.drop (i + 1)) = r at hst
    cases hst with
    | space h =>
      rw [lexF_drop_skip hlt hr0] at hinv
      rw [h] at hsp
      (repeat' (first | refine WP_seq ?_ | refine WP_region ?_ | refine WPL_nil ?_ | (apply WPL_t; (first | exact WT_move rfl | exact WT_assign rfl | (apply g_bin; first | exact WT_lss rfl rfl | exact WT_add rfl rfl) | (apply g_call; first | exact WT_lent rfl rfl) | (apply g_idxt; first | exact WT_idxt rfl rfl rfl)); exact rfl) | refine WP_block ?_ | refine WP_skip ?_ | refine WP_exit ?_ | refine WP_cond_t rfl ?_ | (apply WPL_op0; exact rfl; first | (apply g_callf; first | (refine WO_call Tryd.func21 rfl hsp rfl ?_; rintro _ _ ⟨rfl, rfl⟩))) | (refine WP_cond rfl (fun hb => ?_) (fun hb => ?_) <;> (repeat (first | replace hb := dec_t hb | replace hb := dec_f hb)) <;> (try (exfalso; first | omega)))))
      all_goals (try (exfalso; first | contradiction | omega))
      exact ⟨(i + 1, v, acc), ⟨by show i + 1 ≤ _; omega, by show acc.length ≤ i + 1; omega, hinv⟩, by show s.length - (i + 1) < s.length - i; omega, Leads_env (by repeat (first | exact sub_nil | refine sub_cons rfl ?_)) (List.Sublist.refl _)⟩
    | comment h h2 =>
      have hi1 : i + 1 < s.length := Classical.byContradiction fun e => by
        rw [List.drop_eq_nil_of_le (by omega)] at h2; cases h2
      have hn2 : (s[i + 1].toNat : Int) = 47 := by
        rw [List.drop_eq_getElem_cons hi1] at h2
        rw [show s[i + 1] = 47 from Option.some.inj h2]; rfl
      have hn : (s[i].toNat : Int) = 47 := by rw [h]; rfl
      rw [show spaceB s[i] = false by rw [h]; decide] at hsp
      have hrun := run_of lineB s i hi
      rw [lexF_drop_skip hlt hr0, ← hd] at hinv
      have hL1 : 1 ≤ ((s.drop i).takeWhile lineB).length := by rw [hd]; exact tw_pos (by rw [h]; decide)
      generalize ((s.drop i).takeWhile lineB).length = L at hrun hinv hL1
      have hLle := hrun.le
      (repeat' (first | refine WP_seq ?_ | refine WP_region ?_ | refine WPL_nil ?_ | (apply WPL_t; (first | exact WT_move rfl | exact WT_assign rfl | exact WT_pick (b := true) rfl (fun _ => rfl) (fun e => by cases e) | (apply g_bin; first | exact WT_lss rfl rfl | exact WT_eql rfl rfl) | (apply g_call; first | exact WT_lent rfl rfl) | (apply g_idxt; first | exact WT_idxt rfl rfl rfl)); exact rfl) | (apply WPL_gt; exact rfl; exact rfl; exact rfl; (first | exact WT_move rfl | (apply g_bin; first | exact WT_lss rfl rfl | exact WT_eql rfl rfl | exact WT_add rfl rfl) | (apply g_call; first | exact WT_lent rfl rfl) | (apply g_idxt; first | exact WT_idxt rfl rfl rfl)); exact rfl) | refine WP_block ?_ | refine WP_skip ?_ | refine WP_cond_f rfl ?_ | (apply WPL_op0; exact rfl; first | (apply g_callf; first | (refine WO_call Tryd.func21 rfl hsp rfl ?_; rintro _ _ ⟨rfl, rfl⟩))) | (refine WPL_case rfl rfl (fun hb => ?_) (fun hb => ?_) <;> (repeat (first | replace hb := dec_t hb | replace hb := dec_f hb)) <;> (try (exfalso; first | contradiction | omega))) | (refine WP_cond rfl (fun hb => ?_) (fun hb => ?_) <;> (repeat (first | replace hb := dec_t hb | replace hb := dec_f hb)) <;> (try (exfalso; first | contradiction | omega)))))
      all_goals (try (exfalso; first | contradiction | omega))
      refine WP_loop (fun j : Nat => ([(0, exT s), (5, ex v), (6, exI .i64 (j : Int)), (7, exI .i64 (i : Int))], [vec v 35 4 acc.length (acc.flatMap tokV)])) (fun j => i ≤ j ∧ j ≤ i + L) (fun j => i + L - j) i ?_ ⟨Nat.le_refl _, by omega⟩ fun j hj => ?_
      · exact Leads_env (by repeat (first | exact sub_nil | refine sub_cons rfl ?_)) (List.Sublist.refl _)
      obtain ⟨hj1, hj2⟩ := hj
      by_cases hlj : j < i + L
      · have hjs : j < s.length := by omega
        have hpj := hrun.in_ j hjs hj1 hlj
        have hne : ¬ (s[j].toNat : Int) = 10 := fun e => by
          have e2 : s[j] = 10 := UInt8.toNat_inj.1 (show s[j].toNat = 10 by omega)
          rw [e2] at hpj; exact absurd hpj (by decide)
        (repeat' (first | refine WP_seq ?_ | refine WP_region ?_ | refine WPL_nil ?_ | (apply WPL_t; (first | exact WT_move rfl | exact WT_assign rfl | exact WT_pick (b := true) rfl (fun _ => rfl) (fun e => by cases e) | (apply g_bin; first | exact WT_lss rfl rfl | exact WT_add rfl rfl) | (apply g_call; first | exact WT_lent rfl rfl)); exact rfl) | (apply WPL_gt; exact rfl; exact rfl; exact rfl; (first | exact WT_move rfl | (apply g_bin; first | exact WT_neq rfl rfl) | (apply g_idxt; first | exact WT_idxt rfl rfl rfl)); exact rfl) | refine WP_block ?_ | refine WP_skip ?_ | (refine WPL_case rfl rfl (fun hb => ?_) (fun hb => ?_) <;> (repeat (first | replace hb := dec_t hb | replace hb := dec_f hb)) <;> (try (exfalso; first | omega))) | (refine WP_cond rfl (fun hb => ?_) (fun hb => ?_) <;> (repeat (first | replace hb := dec_t hb | replace hb := dec_f hb | replace hb := not_t hb | replace hb := not_f hb)) <;> (try (exfalso; first | contradiction)))))
        all_goals (try (exfalso; first | contradiction | omega))
        exact ⟨j + 1, ⟨by omega, by omega⟩, by omega, Leads_env (by repeat (first | exact sub_nil | refine sub_cons rfl ?_)) (List.Sublist.refl _)⟩
      have hje : j = i + L := by omega
      subst hje
      by_cases hend : i + L < s.length
      · have hpj := hrun.out_ hend
        have heq : (s[i + L].toNat : Int) = 10 := by
          have e2 : s[i + L] = 10 := Classical.byContradiction fun e => by rw [line_ne e] at hpj; cases hpj
          rw [e2]; rfl
        (repeat' (first | refine WP_seq ?_ | refine WP_region ?_ | refine WPL_nil ?_ | (apply WPL_t; (first | exact WT_move rfl | exact WT_pick (b := true) rfl (fun _ => rfl) (fun e => by cases e) | (apply g_bin; first | exact WT_lss rfl rfl) | (apply g_call; first | exact WT_lent rfl rfl)); exact rfl) | (apply WPL_gt; exact rfl; exact rfl; exact rfl; (first | exact WT_move rfl | (apply g_bin; first | exact WT_neq rfl rfl) | (apply g_idxt; first | exact WT_idxt rfl rfl rfl)); exact rfl) | refine WP_exit ?_ | (refine WPL_case rfl rfl (fun hb => ?_) (fun hb => ?_) <;> (repeat (first | replace hb := dec_t hb | replace hb := dec_f hb)) <;> (try (exfalso; first | omega))) | (refine WP_cond rfl (fun hb => ?_) (fun hb => ?_) <;> (repeat (first | replace hb := dec_t hb | replace hb := dec_f hb | replace hb := not_t hb | replace hb := not_f hb)) <;> (try (exfalso; first | contradiction)))))
        all_goals (try (exfalso; first | contradiction | omega))
        exact ⟨(i + L, v, acc), ⟨by show i + L ≤ _; omega, by show acc.length ≤ i + L; omega, hinv⟩, by show s.length - (i + L) < s.length - i; omega, Leads_env (by repeat (first | exact sub_nil | refine sub_cons rfl ?_)) (List.Sublist.refl _)⟩
      · skip
        (repeat' (first | refine WP_seq ?_ | refine WP_region ?_ | refine WPL_nil ?_ | (apply WPL_t; (first | exact WT_move rfl | exact WT_pick (b := false) rfl (fun e => by cases e) (fun _ => rfl) | (apply g_bin; first | exact WT_lss rfl rfl) | (apply g_call; first | exact WT_lent rfl rfl)); exact rfl) | (refine WPL_off rfl rfl rfl rfl rfl ?_) | refine WP_exit ?_ | refine WP_cond_f rfl ?_ | (refine WPL_case rfl rfl (fun hb => ?_) (fun hb => ?_) <;> (repeat (first | replace hb := dec_t hb | replace hb := dec_f hb)) <;> (try (exfalso; first | omega)))))
        all_goals (try (exfalso; first | contradiction | omega))
        exact ⟨(i + L, v, acc), ⟨by show i + L ≤ _; omega, by show acc.length ≤ i + L; omega, hinv⟩, by show s.length - (i + L) < s.length - i; omega, Leads_env (by repeat (first | exact sub_nil | refine sub_cons rfl ?_)) (List.Sublist.refl _)⟩
    | name h h2 =>
      obtain ⟨c1, c2, c3, c4, c5, c6⟩ := (class_cases s[i]).1 h
      rw [c1] at hsp
      have hne47 : ¬ (s[i].toNat : Int) = 47 := fun e => c4 (UInt8.toNat_inj.1 (show s[i].toNat = 47 by omega))
      rw [h] at hle
      have hrun := run_of partB s i hi
      have hnm := r3name_any ((s.take (i + ((s.drop i).takeWhile partB).length)).drop i)
      rw [nameF_eq, hrun.sub, hd, name_run h, decide_eq_true h2, ← hd, ← hrun.sub] at hnm
      rw [lexF_drop_tok hlt hr0, map_app, ← hd] at hinv
      have hL1 : 1 ≤ ((s.drop i).takeWhile partB).length := by rw [hd]; exact tw_pos (part_of_letter h)
      generalize ((s.drop i).takeWhile partB).length = L at hrun hinv hL1 hnm
      rw [← hrun.sub] at hinv
      have hLle := hrun.le
      (repeat' (first | refine WP_seq ?_ | refine WP_region ?_ | refine WPL_nil ?_ | (apply WPL_t; (first | exact WT_move rfl | exact WT_assign rfl | exact WT_pick (b := false) rfl (fun e => by cases e) (fun _ => rfl) | (apply g_bin; first | exact WT_lss rfl rfl | exact WT_eql rfl rfl) | (apply g_call; first | exact WT_lent rfl rfl) | (apply g_idxt; first | exact WT_idxt rfl rfl rfl)); exact rfl) | (refine WPL_off rfl rfl rfl rfl rfl ?_) | refine WP_block ?_ | refine WP_skip ?_ | refine WP_cond_t rfl ?_ | refine WP_cond_f rfl ?_ | (apply WPL_op0; exact rfl; first | (apply g_callf; first | (refine WO_call Tryd.func21 rfl hsp rfl ?_; rintro _ _ ⟨rfl, rfl⟩) | (refine WO_call Tryd.func30 rfl hle rfl ?_; rintro _ _ ⟨rfl, rfl⟩))) | (refine WPL_case rfl rfl (fun hb => ?_) (fun hb => ?_) <;> (repeat (first | replace hb := dec_t hb | replace hb := dec_f hb)) <;> (try (exfalso; first | contradiction))) | (refine WP_cond rfl (fun hb => ?_) (fun hb => ?_) <;> (repeat (first | replace hb := dec_t hb | replace hb := dec_f hb)) <;> (try (exfalso; first | omega)))))
      all_goals (try (exfalso; first | contradiction | omega))
      refine WP_loop (fun j : Nat => ([(0, exT s), (5, ex v), (6, exI .i64 (j : Int)), (7, exI .i64 (i : Int))], [vec v 35 4 acc.length (acc.flatMap tokV)])) (fun j => i ≤ j ∧ j ≤ i + L) (fun j => i + L - j) i ?_ ⟨Nat.le_refl _, by omega⟩ fun j hj => ?_
      · exact Leads_env (by repeat (first | exact sub_nil | refine sub_cons rfl ?_)) (List.Sublist.refl _)
      obtain ⟨hj1, hj2⟩ := hj
      by_cases hlj : j < i + L
      · have hjs : j < s.length := by omega
        have hpj := hrun.in_ j hjs hj1 hlj
        have hpj2 := part_any s[j]
        rw [partF_eq, hpj] at hpj2
        (repeat' (first | refine WP_seq ?_ | refine WP_region ?_ | refine WPL_nil ?_ | (apply WPL_t; (first | exact WT_move rfl | exact WT_assign rfl | exact WT_pick (b := true) rfl (fun _ => rfl) (fun e => by cases e) | (apply g_bin; first | exact WT_lss rfl rfl | exact WT_add rfl rfl) | (apply g_call; first | exact WT_lent rfl rfl)); exact rfl) | (apply WPL_gt; exact rfl; exact rfl; exact rfl; (first | exact WT_move rfl | (apply g_idxt; first | exact WT_idxt rfl rfl rfl)); exact rfl) | refine WP_block ?_ | refine WP_skip ?_ | refine WP_cond_t rfl ?_ | (apply WPL_on0; exact rfl; exact rfl; exact rfl; exact rfl; (apply g_callf; first | (refine WO_call Tryd.func31 rfl hpj2 rfl ?_; rintro _ _ ⟨rfl, rfl⟩))) | (refine WPL_case rfl rfl (fun hb => ?_) (fun hb => ?_) <;> (repeat (first | replace hb := dec_t hb | replace hb := dec_f hb)) <;> (try (exfalso; first | omega)))))
        all_goals (try (exfalso; first | contradiction | omega))
        exact ⟨j + 1, ⟨by omega, by omega⟩, by omega, Leads_env (by repeat (first | exact sub_nil | refine sub_cons rfl ?_)) (List.Sublist.refl _)⟩
      have hje : j = i + L := by omega
      subst hje
      by_cases hend : i + L < s.length
      · have hpj := hrun.out_ hend
        have hpj2 := part_any s[i + L]
        rw [partF_eq, hpj] at hpj2
        (repeat' (first | (apply WPL_op0; exact rfl; apply g_append; refine WO_append (k := 1) (l0 := []) rfl rfl (by exact Src_row (k := 0) (qs := tokV ⟨1, (s.take (i + L)).drop i, 0, i⟩) rfl rfl rfl) rfl ?_; intro _) | refine WP_seq ?_ | refine WP_region ?_ | refine WPL_nil ?_ | (apply WPL_t; (first | exact WT_move rfl | exact WT_assign rfl | exact WT_pick (b := true) rfl (fun _ => rfl) (fun e => by cases e) | (apply g_bin; first | exact WT_lss rfl rfl) | (apply g_slice; first | exact WT_sslb rfl rfl rfl rfl) | (apply g_call; first | exact WT_lent rfl rfl) | (apply g_un; first | exact WT_not rfl) | (apply g_build; first | exact WT_build2 rfl rfl (by repeat (first | exact PartsO.nil | (apply PartsO.cons; exact rfl; exact inferInstance; exact rfl; exact rfl))))); exact rfl) | (apply WPL_gt; exact rfl; exact rfl; exact rfl; (first | exact WT_move rfl | (apply g_idxt; first | exact WT_idxt rfl rfl rfl)); exact rfl) | refine WP_skip ?_ | refine WP_exit ?_ | refine WP_cond_f rfl ?_ | (apply WPL_op0; exact rfl; first | (apply g_callf; first | (refine WO_call Tryd.func20 rfl hnm rfl ?_; rintro _ _ ⟨rfl, rfl⟩)) | (apply g_bslice; (first | refine WO_bslice1 rfl rfl ?_); intro _)) | (apply WPL_on0; exact rfl; exact rfl; exact rfl; exact rfl; (apply g_callf; first | (refine WO_call Tryd.func31 rfl hpj2 rfl ?_; rintro _ _ ⟨rfl, rfl⟩))) | (refine WPL_case rfl rfl (fun hb => ?_) (fun hb => ?_) <;> (repeat (first | replace hb := dec_t hb | replace hb := dec_f hb)) <;> (try (exfalso; first | omega)))))
        all_goals (try (exfalso; first | contradiction | omega))
        rename_i v2
        refine ⟨(i + L, v2, acc ++ [⟨1, (s.take (i + L)).drop i, 0, i⟩]), ⟨by show i + L ≤ _; omega, by show (acc ++ _).length ≤ i + L; simp; omega, hinv⟩, by show s.length - (i + L) < s.length - i; omega, ?_⟩
        simp only [List.length_append, List.flatMap_append, List.length_cons, List.length_nil, List.flatMap_cons, List.flatMap_nil, List.append_nil]
        exact Leads_env (by repeat (first | exact sub_nil | refine sub_cons rfl ?_)) (.cons _ (.refl _))
      · skip
        (repeat' (first | (apply WPL_op0; exact rfl; apply g_append; refine WO_append (k := 1) (l0 := []) rfl rfl (by exact Src_row (k := 0) (qs := tokV ⟨1, (s.take (i + L)).drop i, 0, i⟩) rfl rfl rfl) rfl ?_; intro _) | refine WP_seq ?_ | refine WP_region ?_ | refine WPL_nil ?_ | (apply WPL_t; (first | exact WT_move rfl | exact WT_assign rfl | exact WT_pick (b := false) rfl (fun e => by cases e) (fun _ => rfl) | (apply g_bin; first | exact WT_lss rfl rfl) | (apply g_slice; first | exact WT_sslb rfl rfl rfl rfl) | (apply g_call; first | exact WT_lent rfl rfl) | (apply g_un; first | exact WT_not rfl) | (apply g_build; first | exact WT_build2 rfl rfl (by repeat (first | exact PartsO.nil | (apply PartsO.cons; exact rfl; exact inferInstance; exact rfl; exact rfl))))); exact rfl) | (refine WPL_off rfl rfl rfl rfl rfl ?_) | refine WP_skip ?_ | refine WP_exit ?_ | refine WP_cond_f rfl ?_ | (apply WPL_op0; exact rfl; first | (apply g_callf; first | (refine WO_call Tryd.func20 rfl hnm rfl ?_; rintro _ _ ⟨rfl, rfl⟩)) | (apply g_bslice; (first | refine WO_bslice1 rfl rfl ?_); intro _)) | (refine WPL_case rfl rfl (fun hb => ?_) (fun hb => ?_) <;> (repeat (first | replace hb := dec_t hb | replace hb := dec_f hb)) <;> (try (exfalso; first | omega)))))
        all_goals (try (exfalso; first | contradiction | omega))
        rename_i v2
        refine ⟨(i + L, v2, acc ++ [⟨1, (s.take (i + L)).drop i, 0, i⟩]), ⟨by show i + L ≤ _; omega, by show (acc ++ _).length ≤ i + L; simp; omega, hinv⟩, by show s.length - (i + L) < s.length - i; omega, ?_⟩
        simp only [List.length_append, List.flatMap_append, List.length_cons, List.length_nil, List.flatMap_cons, List.flatMap_nil, List.append_nil]
        exact Leads_env (by repeat (first | exact sub_nil | refine sub_cons rfl ?_)) (.cons _ (.refl _))
    | num h h2 =>
      obtain ⟨c1, c2, c3, c4, c5, c6⟩ := (class_cases s[i]).2.1 h
      rw [c1] at hsp
      have hne47 : ¬ (s[i].toNat : Int) = 47 := fun e => c4 (UInt8.toNat_inj.1 (show s[i].toNat = 47 by omega))
      rw [c2] at hle
      rw [h] at hfi
      have hrun := run_of digitB s i hi
      have hnu := r3number_any ((s.take (i + ((s.drop i).takeWhile digitB).length)).drop i) (by rw [hrun.sub]; exact tw_all) (by
        rw [hrun.sub, hd]; intro e
        have := tw_pos (s := s.drop (i + 1)) h
        rw [e] at this; simp at this) (by rw [hrun.sub]; have := tw_len (p := digitB) (s.drop i); rw [List.length_drop] at this; omega)
      rw [hrun.sub, hd, h2, numR_run h2, ← hd, ← hrun.sub] at hnu
      rw [lexF_drop_tok hlt hr0, map_app, ← hd] at hinv
      have hL1 : 1 ≤ ((s.drop i).takeWhile digitB).length := by rw [hd]; exact tw_pos h
      generalize ((s.drop i).takeWhile digitB).length = L at hrun hinv hL1 hnu
      rw [← hrun.sub] at hinv
      have hLle := hrun.le
      (repeat' (first | refine WP_seq ?_ | refine WP_region ?_ | refine WPL_nil ?_ | (apply WPL_t; (first | exact WT_move rfl | exact WT_assign rfl | exact WT_pick (b := false) rfl (fun e => by cases e) (fun _ => rfl) | (apply g_bin; first | exact WT_lss rfl rfl | exact WT_eql rfl rfl) | (apply g_call; first | exact WT_lent rfl rfl) | (apply g_idxt; first | exact WT_idxt rfl rfl rfl)); exact rfl) | (refine WPL_off rfl rfl rfl rfl rfl ?_) | refine WP_block ?_ | refine WP_skip ?_ | refine WP_cond_t rfl ?_ | refine WP_cond_f rfl ?_ | (apply WPL_op0; exact rfl; first | (apply g_callf; first | (refine WO_call Tryd.func21 rfl hsp rfl ?_; rintro _ _ ⟨rfl, rfl⟩) | (refine WO_call Tryd.func30 rfl hle rfl ?_; rintro _ _ ⟨rfl, rfl⟩) | (refine WO_call Tryd.func32 rfl hfi rfl ?_; rintro _ _ ⟨rfl, rfl⟩))) | (refine WPL_case rfl rfl (fun hb => ?_) (fun hb => ?_) <;> (repeat (first | replace hb := dec_t hb | replace hb := dec_f hb)) <;> (try (exfalso; first | contradiction))) | (refine WP_cond rfl (fun hb => ?_) (fun hb => ?_) <;> (repeat (first | replace hb := dec_t hb | replace hb := dec_f hb)) <;> (try (exfalso; first | omega)))))
      all_goals (try (exfalso; first | contradiction | omega))
      refine WP_loop (fun j : Nat => ([(0, exT s), (5, ex v), (6, exI .i64 (j : Int)), (7, exI .i64 (i : Int))], [vec v 35 4 acc.length (acc.flatMap tokV)])) (fun j => i ≤ j ∧ j ≤ i + L) (fun j => i + L - j) i ?_ ⟨Nat.le_refl _, by omega⟩ fun j hj => ?_
      · exact Leads_env (by repeat (first | exact sub_nil | refine sub_cons rfl ?_)) (List.Sublist.refl _)
      obtain ⟨hj1, hj2⟩ := hj
      by_cases hlj : j < i + L
      · have hjs : j < s.length := by omega
        have hpj := hrun.in_ j hjs hj1 hlj
        have hfj := figure_any s[j]
        rw [figureF_eq, hpj] at hfj
        (repeat' (first | refine WP_seq ?_ | refine WP_region ?_ | refine WPL_nil ?_ | (apply WPL_t; (first | exact WT_move rfl | exact WT_assign rfl | exact WT_pick (b := true) rfl (fun _ => rfl) (fun e => by cases e) | (apply g_bin; first | exact WT_lss rfl rfl | exact WT_add rfl rfl) | (apply g_call; first | exact WT_lent rfl rfl)); exact rfl) | (apply WPL_gt; exact rfl; exact rfl; exact rfl; (first | exact WT_move rfl | (apply g_idxt; first | exact WT_idxt rfl rfl rfl)); exact rfl) | refine WP_block ?_ | refine WP_skip ?_ | refine WP_cond_t rfl ?_ | (apply WPL_on0; exact rfl; exact rfl; exact rfl; exact rfl; (apply g_callf; first | (refine WO_call Tryd.func32 rfl hfj rfl ?_; rintro _ _ ⟨rfl, rfl⟩))) | (refine WPL_case rfl rfl (fun hb => ?_) (fun hb => ?_) <;> (repeat (first | replace hb := dec_t hb | replace hb := dec_f hb)) <;> (try (exfalso; first | omega)))))
        all_goals (try (exfalso; first | contradiction | omega))
        exact ⟨j + 1, ⟨by omega, by omega⟩, by omega, Leads_env (by repeat (first | exact sub_nil | refine sub_cons rfl ?_)) (List.Sublist.refl _)⟩
      have hje : j = i + L := by omega
      subst hje
      by_cases hend : i + L < s.length
      · have hpj := hrun.out_ hend
        have hfj := figure_any s[i + L]
        rw [figureF_eq, hpj] at hfj
        (repeat' (first | (apply WPL_op0; exact rfl; apply g_append; refine WO_append (k := 1) (l0 := []) rfl rfl (by exact Src_row (k := 0) (qs := tokV ⟨2, [], (valF ((s.take (i + L)).drop i) : Nat), i⟩) rfl rfl rfl) rfl ?_; intro _) | refine WP_seq ?_ | refine WP_region ?_ | refine WPL_nil ?_ | (apply WPL_t; (first | exact WT_move rfl | exact WT_assign rfl | exact WT_pick (b := true) rfl (fun _ => rfl) (fun e => by cases e) | exact WT_extract rfl rfl | (apply g_bin; first | exact WT_lss rfl rfl) | (apply g_slice; first | exact WT_sslb rfl rfl rfl rfl) | (apply g_call; first | exact WT_lent rfl rfl) | (apply g_un; first | exact WT_not rfl) | (apply g_build; first | exact WT_build2 rfl rfl (by repeat (first | exact PartsO.nil | (apply PartsO.cons; exact rfl; exact inferInstance; exact rfl; exact rfl))))); exact rfl) | (apply WPL_gt; exact rfl; exact rfl; exact rfl; (first | exact WT_move rfl | (apply g_idxt; first | exact WT_idxt rfl rfl rfl)); exact rfl) | refine WP_skip ?_ | refine WP_exit ?_ | refine WP_cond_f rfl ?_ | (apply WPL_op0; exact rfl; first | (apply g_callf; first | (refine WO_call Tryd.func33 rfl hnu rfl ?_; rintro _ _ ⟨rfl, rfl⟩)) | (apply g_bslice; (first | refine WO_bslice1 rfl rfl ?_); intro _)) | (apply WPL_on0; exact rfl; exact rfl; exact rfl; exact rfl; (apply g_callf; first | (refine WO_call Tryd.func32 rfl hfj rfl ?_; rintro _ _ ⟨rfl, rfl⟩))) | (refine WPL_case rfl rfl (fun hb => ?_) (fun hb => ?_) <;> (repeat (first | replace hb := dec_t hb | replace hb := dec_f hb)) <;> (try (exfalso; first | omega)))))
        all_goals (try (exfalso; first | contradiction | omega))
        rename_i v2
        refine ⟨(i + L, v2, acc ++ [⟨2, [], (valF ((s.take (i + L)).drop i) : Nat), i⟩]), ⟨by show i + L ≤ _; omega, by show (acc ++ _).length ≤ i + L; simp; omega, hinv⟩, by show s.length - (i + L) < s.length - i; omega, ?_⟩
        simp only [List.length_append, List.flatMap_append, List.length_cons, List.length_nil, List.flatMap_cons, List.flatMap_nil, List.append_nil]
        exact Leads_env (by repeat (first | exact sub_nil | refine sub_cons rfl ?_)) (.cons _ (.refl _))
      · skip
        (repeat' (first | (apply WPL_op0; exact rfl; apply g_append; refine WO_append (k := 1) (l0 := []) rfl rfl (by exact Src_row (k := 0) (qs := tokV ⟨2, [], (valF ((s.take (i + L)).drop i) : Nat), i⟩) rfl rfl rfl) rfl ?_; intro _) | refine WP_seq ?_ | refine WP_region ?_ | refine WPL_nil ?_ | (apply WPL_t; (first | exact WT_move rfl | exact WT_assign rfl | exact WT_pick (b := false) rfl (fun e => by cases e) (fun _ => rfl) | exact WT_extract rfl rfl | (apply g_bin; first | exact WT_lss rfl rfl) | (apply g_slice; first | exact WT_sslb rfl rfl rfl rfl) | (apply g_call; first | exact WT_lent rfl rfl) | (apply g_un; first | exact WT_not rfl) | (apply g_build; first | exact WT_build2 rfl rfl (by repeat (first | exact PartsO.nil | (apply PartsO.cons; exact rfl; exact inferInstance; exact rfl; exact rfl))))); exact rfl) | (refine WPL_off rfl rfl rfl rfl rfl ?_) | refine WP_skip ?_ | refine WP_exit ?_ | refine WP_cond_f rfl ?_ | (apply WPL_op0; exact rfl; first | (apply g_callf; first | (refine WO_call Tryd.func33 rfl hnu rfl ?_; rintro _ _ ⟨rfl, rfl⟩)) | (apply g_bslice; (first | refine WO_bslice1 rfl rfl ?_); intro _)) | (refine WPL_case rfl rfl (fun hb => ?_) (fun hb => ?_) <;> (repeat (first | replace hb := dec_t hb | replace hb := dec_f hb)) <;> (try (exfalso; first | omega)))))
        all_goals (try (exfalso; first | contradiction | omega))
        rename_i v2
        refine ⟨(i + L, v2, acc ++ [⟨2, [], (valF ((s.take (i + L)).drop i) : Nat), i⟩]), ⟨by show i + L ≤ _; omega, by show (acc ++ _).length ≤ i + L; simp; omega, hinv⟩, by show s.length - (i + L) < s.length - i; omega, ?_⟩
        simp only [List.length_append, List.flatMap_append, List.length_cons, List.length_nil, List.flatMap_cons, List.flatMap_nil, List.append_nil]
        exact Leads_env (by repeat (first | exact sub_nil | refine sub_cons rfl ?_)) (.cons _ (.refl _))
    | sign h h2 =>
      obtain ⟨c1, c2, c3, c4, c5⟩ := (class_cases s[i]).2.2.1 h
      rw [c1] at hsp
      rw [c2] at hle
      rw [c3] at hfi
      rw [h] at hsg
      have hsl : (s.take (i + 1)).drop i = [s[i]] := by
        rw [List.take_succ_eq_append_getElem hlt, List.drop_append_of_le_length (by rw [List.length_take]; omega), List.drop_eq_nil_of_le (by rw [List.length_take]; omega)]; rfl
      rw [lexF_drop_tok hlt hr0, map_app, ← hsl] at hinv
      have hn47 : (s[i].toNat : Int) = 47 → ∀ (hi1 : i + 1 < s.length), ¬ (s[i + 1].toNat : Int) = 47 := fun e hi1 e2 => by
        refine h2 (UInt8.toNat_inj.1 (show s[i].toNat = 47 by omega)) ?_
        rw [List.drop_eq_getElem_cons hi1]
        exact congrArg some (UInt8.toNat_inj.1 (show s[i + 1].toNat = 47 by omega))
      by_cases he : (s[i].toNat : Int) = 47
      · by_cases hi1 : i + 1 < s.length
        · have hn2 := hn47 he hi1
          (repeat' (first | (apply WPL_op0; exact rfl; apply g_append; refine WO_append (k := 1) (l0 := []) rfl rfl (by exact Src_row (k := 0) (qs := tokV ⟨3, (s.take (i + 1)).drop i, 0, i⟩) rfl rfl rfl) rfl ?_; intro _) | refine WP_seq ?_ | refine WP_region ?_ | refine WPL_nil ?_ | (apply WPL_t; (first | exact WT_move rfl | exact WT_assign rfl | exact WT_pick (b := true) rfl (fun _ => rfl) (fun e => by cases e) | (apply g_bin; first | exact WT_lss rfl rfl | exact WT_eql rfl rfl | exact WT_add rfl rfl) | (apply g_slice; first | exact WT_sslb rfl rfl rfl rfl) | (apply g_call; first | exact WT_lent rfl rfl) | (apply g_un; first | exact WT_not rfl) | (apply g_build; first | exact WT_build2 rfl rfl (by repeat (first | exact PartsO.nil | (apply PartsO.cons; exact rfl; exact inferInstance; exact rfl; exact rfl)))) | (apply g_idxt; first | exact WT_idxt rfl rfl rfl)); exact rfl) | (apply WPL_gt; exact rfl; exact rfl; exact rfl; (first | exact WT_move rfl | (apply g_bin; first | exact WT_lss rfl rfl | exact WT_eql rfl rfl | exact WT_add rfl rfl) | (apply g_call; first | exact WT_lent rfl rfl) | (apply g_idxt; first | exact WT_idxt rfl rfl rfl)); exact rfl) | refine WP_block ?_ | refine WP_skip ?_ | refine WP_cond_f rfl ?_ | (apply WPL_op0; exact rfl; first | (apply g_callf; first | (refine WO_call Tryd.func21 rfl hsp rfl ?_; rintro _ _ ⟨rfl, rfl⟩) | (refine WO_call Tryd.func30 rfl hle rfl ?_; rintro _ _ ⟨rfl, rfl⟩) | (refine WO_call Tryd.func32 rfl hfi rfl ?_; rintro _ _ ⟨rfl, rfl⟩) | (refine WO_call Tryd.func34 rfl hsg rfl ?_; rintro _ _ ⟨rfl, rfl⟩)) | (apply g_bslice; (first | refine WO_bslice1 rfl rfl ?_); intro _)) | (refine WPL_case rfl rfl (fun hb => ?_) (fun hb => ?_) <;> (repeat (first | replace hb := dec_t hb | replace hb := dec_f hb)) <;> (try (exfalso; first | contradiction | omega))) | (refine WP_cond rfl (fun hb => ?_) (fun hb => ?_) <;> (repeat (first | replace hb := dec_t hb | replace hb := dec_f hb)) <;> (try (exfalso; first | contradiction | omega)))))
          all_goals (try (exfalso; first | contradiction | omega))
          all_goals (rename_i v2; refine ⟨(i + 1, v2, acc ++ [⟨3, (s.take (i + 1)).drop i, 0, i⟩]), ⟨by show i + 1 ≤ _; omega, by show (acc ++ _).length ≤ i + 1; simp; omega, hinv⟩, by show s.length - (i + 1) < s.length - i; omega, ?_⟩)
          all_goals (simp only [List.length_append, List.flatMap_append, List.length_cons, List.length_nil, List.flatMap_cons, List.flatMap_nil, List.append_nil])
          all_goals exact Leads_env (by repeat (first | exact sub_nil | refine sub_cons rfl ?_)) (.cons _ (.refl _))
        · (repeat' (first | (apply WPL_op0; exact rfl; apply g_append; refine WO_append (k := 1) (l0 := []) rfl rfl (by exact Src_row (k := 0) (qs := tokV ⟨3, (s.take (i + 1)).drop i, 0, i⟩) rfl rfl rfl) rfl ?_; intro _) | refine WP_seq ?_ | refine WP_region ?_ | refine WPL_nil ?_ | (apply WPL_t; (first | exact WT_move rfl | exact WT_assign rfl | exact WT_pick (b := true) rfl (fun _ => rfl) (fun e => by cases e) | exact WT_pick (b := false) rfl (fun e => by cases e) (fun _ => rfl) | (apply g_bin; first | exact WT_lss rfl rfl | exact WT_eql rfl rfl | exact WT_add rfl rfl) | (apply g_slice; first | exact WT_sslb rfl rfl rfl rfl) | (apply g_call; first | exact WT_lent rfl rfl) | (apply g_un; first | exact WT_not rfl) | (apply g_build; first | exact WT_build2 rfl rfl (by repeat (first | exact PartsO.nil | (apply PartsO.cons; exact rfl; exact inferInstance; exact rfl; exact rfl)))) | (apply g_idxt; first | exact WT_idxt rfl rfl rfl)); exact rfl) | (refine WPL_off rfl rfl rfl rfl rfl ?_) | (apply WPL_gt; exact rfl; exact rfl; exact rfl; (first | exact WT_move rfl | (apply g_bin; first | exact WT_lss rfl rfl | exact WT_add rfl rfl) | (apply g_call; first | exact WT_lent rfl rfl)); exact rfl) | refine WP_block ?_ | refine WP_skip ?_ | refine WP_cond_f rfl ?_ | (apply WPL_op0; exact rfl; first | (apply g_callf; first | (refine WO_call Tryd.func21 rfl hsp rfl ?_; rintro _ _ ⟨rfl, rfl⟩) | (refine WO_call Tryd.func30 rfl hle rfl ?_; rintro _ _ ⟨rfl, rfl⟩) | (refine WO_call Tryd.func32 rfl hfi rfl ?_; rintro _ _ ⟨rfl, rfl⟩) | (refine WO_call Tryd.func34 rfl hsg rfl ?_; rintro _ _ ⟨rfl, rfl⟩)) | (apply g_bslice; (first | refine WO_bslice1 rfl rfl ?_); intro _)) | (refine WPL_case rfl rfl (fun hb => ?_) (fun hb => ?_) <;> (repeat (first | replace hb := dec_t hb | replace hb := dec_f hb)) <;> (try (exfalso; first | contradiction | omega))) | (refine WP_cond rfl (fun hb => ?_) (fun hb => ?_) <;> (repeat (first | replace hb := dec_t hb | replace hb := dec_f hb)) <;> (try (exfalso; first | omega)))))
          all_goals (try (exfalso; first | contradiction | omega))
          all_goals (rename_i v2; refine ⟨(i + 1, v2, acc ++ [⟨3, (s.take (i + 1)).drop i, 0, i⟩]), ⟨by show i + 1 ≤ _; omega, by show (acc ++ _).length ≤ i + 1; simp; omega, hinv⟩, by show s.length - (i + 1) < s.length - i; omega, ?_⟩)
          all_goals (simp only [List.length_append, List.flatMap_append, List.length_cons, List.length_nil, List.flatMap_cons, List.flatMap_nil, List.append_nil])
          all_goals exact Leads_env (by repeat (first | exact sub_nil | refine sub_cons rfl ?_)) (.cons _ (.refl _))
      · (repeat' (first | (apply WPL_op0; exact rfl; apply g_append; refine WO_append (k := 1) (l0 := []) rfl rfl (by exact Src_row (k := 0) (qs := tokV ⟨3, (s.take (i + 1)).drop i, 0, i⟩) rfl rfl rfl) rfl ?_; intro _) | refine WP_seq ?_ | refine WP_region ?_ | refine WPL_nil ?_ | (apply WPL_t; (first | exact WT_move rfl | exact WT_assign rfl | exact WT_pick (b := false) rfl (fun e => by cases e) (fun _ => rfl) | (apply g_bin; first | exact WT_lss rfl rfl | exact WT_eql rfl rfl | exact WT_add rfl rfl) | (apply g_slice; first | exact WT_sslb rfl rfl rfl rfl) | (apply g_call; first | exact WT_lent rfl rfl) | (apply g_un; first | exact WT_not rfl) | (apply g_build; first | exact WT_build2 rfl rfl (by repeat (first | exact PartsO.nil | (apply PartsO.cons; exact rfl; exact inferInstance; exact rfl; exact rfl)))) | (apply g_idxt; first | exact WT_idxt rfl rfl rfl)); exact rfl) | (refine WPL_off rfl rfl rfl rfl rfl ?_) | refine WP_block ?_ | refine WP_skip ?_ | refine WP_cond_f rfl ?_ | (apply WPL_op0; exact rfl; first | (apply g_callf; first | (refine WO_call Tryd.func21 rfl hsp rfl ?_; rintro _ _ ⟨rfl, rfl⟩) | (refine WO_call Tryd.func30 rfl hle rfl ?_; rintro _ _ ⟨rfl, rfl⟩) | (refine WO_call Tryd.func32 rfl hfi rfl ?_; rintro _ _ ⟨rfl, rfl⟩) | (refine WO_call Tryd.func34 rfl hsg rfl ?_; rintro _ _ ⟨rfl, rfl⟩)) | (apply g_bslice; (first | refine WO_bslice1 rfl rfl ?_); intro _)) | (refine WPL_case rfl rfl (fun hb => ?_) (fun hb => ?_) <;> (repeat (first | replace hb := dec_t hb | replace hb := dec_f hb)) <;> (try (exfalso; first | contradiction))) | (refine WP_cond rfl (fun hb => ?_) (fun hb => ?_) <;> (repeat (first | replace hb := dec_t hb | replace hb := dec_f hb)) <;> (try (exfalso; first | omega)))))
        all_goals (try (exfalso; first | contradiction | omega))
        all_goals (rename_i v2; refine ⟨(i + 1, v2, acc ++ [⟨3, (s.take (i + 1)).drop i, 0, i⟩]), ⟨by show i + 1 ≤ _; omega, by show (acc ++ _).length ≤ i + 1; simp; omega, hinv⟩, by show s.length - (i + 1) < s.length - i; omega, ?_⟩)
        all_goals (simp only [List.length_append, List.flatMap_append, List.length_cons, List.length_nil, List.flatMap_cons, List.flatMap_nil, List.append_nil])
        all_goals exact Leads_env (by repeat (first | exact sub_nil | refine sub_cons rfl ?_)) (.cons _ (.refl _))
    | badName h h2 =>
      obtain ⟨c1, c2, c3, c4, c5, c6⟩ := (class_cases s[i]).1 h
      rw [c1] at hsp
      have hne47 : ¬ (s[i].toNat : Int) = 47 := fun e => c4 (UInt8.toNat_inj.1 (show s[i].toNat = 47 by omega))
      rw [h] at hle
      have hrun := run_of partB s i hi
      have hnm := r3name_any ((s.take (i + ((s.drop i).takeWhile partB).length)).drop i)
      rw [nameF_eq, hrun.sub, hd, name_run h, decide_eq_false (by omega), ← hd, ← hrun.sub] at hnm
      rw [lexF_drop_bad hlt hr0] at hinv
      have hL1 : 1 ≤ ((s.drop i).takeWhile partB).length := by rw [hd]; exact tw_pos (part_of_letter h)
      generalize ((s.drop i).takeWhile partB).length = L at hrun hinv hL1 hnm
      have hLle := hrun.le
      rw [hinv]
      clear hinv
      (repeat' (first | refine WP_seq ?_ | refine WP_region ?_ | refine WPL_nil ?_ | (apply WPL_t; (first | exact WT_move rfl | exact WT_assign rfl | exact WT_pick (b := false) rfl (fun e => by cases e) (fun _ => rfl) | (apply g_bin; first | exact WT_lss rfl rfl | exact WT_eql rfl rfl) | (apply g_call; first | exact WT_lent rfl rfl) | (apply g_idxt; first | exact WT_idxt rfl rfl rfl)); exact rfl) | (refine WPL_off rfl rfl rfl rfl rfl ?_) | refine WP_block ?_ | refine WP_skip ?_ | refine WP_cond_t rfl ?_ | refine WP_cond_f rfl ?_ | (apply WPL_op0; exact rfl; first | (apply g_callf; first | (refine WO_call Tryd.func21 rfl hsp rfl ?_; rintro _ _ ⟨rfl, rfl⟩) | (refine WO_call Tryd.func30 rfl hle rfl ?_; rintro _ _ ⟨rfl, rfl⟩))) | (refine WPL_case rfl rfl (fun hb => ?_) (fun hb => ?_) <;> (repeat (first | replace hb := dec_t hb | replace hb := dec_f hb)) <;> (try (exfalso; first | contradiction))) | (refine WP_cond rfl (fun hb => ?_) (fun hb => ?_) <;> (repeat (first | replace hb := dec_t hb | replace hb := dec_f hb)) <;> (try (exfalso; first | omega)))))
      all_goals (try (exfalso; first | contradiction | omega))
      refine WP_loop (fun j : Nat => ([(0, exT s), (5, ex v), (6, exI .i64 (j : Int)), (7, exI .i64 (i : Int))], [vec v 35 4 acc.length (acc.flatMap tokV)])) (fun j => i ≤ j ∧ j ≤ i + L) (fun j => i + L - j) i ?_ ⟨Nat.le_refl _, by omega⟩ fun j hj => ?_
      · exact Leads_env (by repeat (first | exact sub_nil | refine sub_cons rfl ?_)) (List.Sublist.refl _)
      obtain ⟨hj1, hj2⟩ := hj
      by_cases hlj : j < i + L
      · have hjs : j < s.length := by omega
        have hpj := hrun.in_ j hjs hj1 hlj
        have hpj2 := part_any s[j]
        rw [partF_eq, hpj] at hpj2
        (repeat' (first | refine WP_seq ?_ | refine WP_region ?_ | refine WPL_nil ?_ | (apply WPL_t; (first | exact WT_move rfl | exact WT_assign rfl | exact WT_pick (b := true) rfl (fun _ => rfl) (fun e => by cases e) | (apply g_bin; first | exact WT_lss rfl rfl | exact WT_add rfl rfl) | (apply g_call; first | exact WT_lent rfl rfl)); exact rfl) | (apply WPL_gt; exact rfl; exact rfl; exact rfl; (first | exact WT_move rfl | (apply g_idxt; first | exact WT_idxt rfl rfl rfl)); exact rfl) | refine WP_block ?_ | refine WP_skip ?_ | refine WP_cond_t rfl ?_ | (apply WPL_on0; exact rfl; exact rfl; exact rfl; exact rfl; (apply g_callf; first | (refine WO_call Tryd.func31 rfl hpj2 rfl ?_; rintro _ _ ⟨rfl, rfl⟩))) | (refine WPL_case rfl rfl (fun hb => ?_) (fun hb => ?_) <;> (repeat (first | replace hb := dec_t hb | replace hb := dec_f hb)) <;> (try (exfalso; first | omega)))))
        all_goals (try (exfalso; first | contradiction | omega))
        exact ⟨j + 1, ⟨by omega, by omega⟩, by omega, Leads_env (by repeat (first | exact sub_nil | refine sub_cons rfl ?_)) (List.Sublist.refl _)⟩
      have hje : j = i + L := by omega
      subst hje
      by_cases hend : i + L < s.length
      · have hpj := hrun.out_ hend
        have hpj2 := part_any s[i + L]
        rw [partF_eq, hpj] at hpj2
        (repeat' (first | refine WP_seq ?_ | refine WP_region ?_ | refine WPL_nil ?_ | (apply WPL_t; (first | exact WT_move rfl | exact WT_assign rfl | exact WT_pick (b := true) rfl (fun _ => rfl) (fun e => by cases e) | (apply g_bin; first | exact WT_lss rfl rfl) | (apply g_slice; first | exact WT_sslb rfl rfl rfl rfl) | (apply g_call; first | exact WT_lent rfl rfl) | (apply g_un; first | exact WT_not rfl)); exact rfl) | (apply WPL_gt; exact rfl; exact rfl; exact rfl; (first | exact WT_move rfl | (apply g_idxt; first | exact WT_idxt rfl rfl rfl)); exact rfl) | refine WP_ret ?_ | refine WP_exit ?_ | refine WP_cond_t rfl ?_ | refine WP_cond_f rfl ?_ | (apply WPL_op0; exact rfl; first | (apply g_callf; first | (refine WO_call Tryd.func20 rfl hnm rfl ?_; rintro _ _ ⟨rfl, rfl⟩))) | (apply WPL_on0; exact rfl; exact rfl; exact rfl; exact rfl; (apply g_callf; first | (refine WO_call Tryd.func31 rfl hpj2 rfl ?_; rintro _ _ ⟨rfl, rfl⟩))) | (refine WPL_case rfl rfl (fun hb => ?_) (fun hb => ?_) <;> (repeat (first | replace hb := dec_t hb | replace hb := dec_f hb)) <;> (try (exfalso; first | omega)))))
        all_goals (try (exfalso; first | contradiction | omega))
        all_goals (refine ⟨.inr rfl, retw (loc' := []) (ret3 rfl (.tmp rfl) (.tmp rfl) (.tmp rfl) (List.nil_sublist _) ⟨rfl, rfl⟩) ?_ ⟨rfl, rfl⟩⟩)
        all_goals exact Ims.tup (.cons Im.nil (.cons (Im.refl _) (.cons (Im.refl _) .nil)))
      · skip
        (repeat' (first | refine WP_seq ?_ | refine WP_region ?_ | refine WPL_nil ?_ | (apply WPL_t; (first | exact WT_move rfl | exact WT_assign rfl | exact WT_pick (b := false) rfl (fun e => by cases e) (fun _ => rfl) | (apply g_bin; first | exact WT_lss rfl rfl) | (apply g_slice; first | exact WT_sslb rfl rfl rfl rfl) | (apply g_call; first | exact WT_lent rfl rfl) | (apply g_un; first | exact WT_not rfl)); exact rfl) | (refine WPL_off rfl rfl rfl rfl rfl ?_) | refine WP_ret ?_ | refine WP_exit ?_ | refine WP_cond_t rfl ?_ | refine WP_cond_f rfl ?_ | (apply WPL_op0; exact rfl; first | (apply g_callf; first | (refine WO_call Tryd.func20 rfl hnm rfl ?_; rintro _ _ ⟨rfl, rfl⟩))) | (refine WPL_case rfl rfl (fun hb => ?_) (fun hb => ?_) <;> (repeat (first | replace hb := dec_t hb | replace hb := dec_f hb)) <;> (try (exfalso; first | omega)))))
        all_goals (try (exfalso; first | contradiction | omega))
        all_goals (refine ⟨.inr rfl, retw (loc' := []) (ret3 rfl (.tmp rfl) (.tmp rfl) (.tmp rfl) (List.nil_sublist _) ⟨rfl, rfl⟩) ?_ ⟨rfl, rfl⟩⟩)
        all_goals exact Ims.tup (.cons Im.nil (.cons (Im.refl _) (.cons (Im.refl _) .nil)))
    | badNum h h2 =>
      obtain ⟨c1, c2, c3, c4, c5, c6⟩ := (class_cases s[i]).2.1 h
      rw [c1] at hsp
      have hne47 : ¬ (s[i].toNat : Int) = 47 := fun e => c4 (UInt8.toNat_inj.1 (show s[i].toNat = 47 by omega))
      rw [c2] at hle
      rw [h] at hfi
      have hrun := run_of digitB s i hi
      have hnu := r3number_any ((s.take (i + ((s.drop i).takeWhile digitB).length)).drop i) (by rw [hrun.sub]; exact tw_all) (by
        rw [hrun.sub, hd]; intro e
        have := tw_pos (s := s.drop (i + 1)) h
        rw [e] at this; simp at this) (by rw [hrun.sub]; have := tw_len (p := digitB) (s.drop i); rw [List.length_drop] at this; omega)
      rw [hrun.sub, hd, h2, ← hd, ← hrun.sub] at hnu
      rw [lexF_drop_bad hlt hr0] at hinv
      have hL1 : 1 ≤ ((s.drop i).takeWhile digitB).length := by rw [hd]; exact tw_pos h
      generalize ((s.drop i).takeWhile digitB).length = L at hrun hinv hL1 hnu
      have hLle := hrun.le
      rw [hinv]
      clear hinv
      (repeat' (first | refine WP_seq ?_ | refine WP_region ?_ | refine WPL_nil ?_ | (apply WPL_t; (first | exact WT_move rfl | exact WT_assign rfl | exact WT_pick (b := false) rfl (fun e => by cases e) (fun _ => rfl) | (apply g_bin; first | exact WT_lss rfl rfl | exact WT_eql rfl rfl) | (apply g_call; first | exact WT_lent rfl rfl) | (apply g_idxt; first | exact WT_idxt rfl rfl rfl)); exact rfl) | (refine WPL_off rfl rfl rfl rfl rfl ?_) | refine WP_block ?_ | refine WP_skip ?_ | refine WP_cond_t rfl ?_ | refine WP_cond_f rfl ?_ | (apply WPL_op0; exact rfl; first | (apply g_callf; first | (refine WO_call Tryd.func21 rfl hsp rfl ?_; rintro _ _ ⟨rfl, rfl⟩) | (refine WO_call Tryd.func30 rfl hle rfl ?_; rintro _ _ ⟨rfl, rfl⟩) | (refine WO_call Tryd.func32 rfl hfi rfl ?_; rintro _ _ ⟨rfl, rfl⟩))) | (refine WPL_case rfl rfl (fun hb => ?_) (fun hb => ?_) <;> (repeat (first | replace hb := dec_t hb | replace hb := dec_f hb)) <;> (try (exfalso; first | contradiction))) | (refine WP_cond rfl (fun hb => ?_) (fun hb => ?_) <;> (repeat (first | replace hb := dec_t hb | replace hb := dec_f hb)) <;> (try (exfalso; first | omega)))))
      all_goals (try (exfalso; first | contradiction | omega))
      refine WP_loop (fun j : Nat => ([(0, exT s), (5, ex v), (6, exI .i64 (j : Int)), (7, exI .i64 (i : Int))], [vec v 35 4 acc.length (acc.flatMap tokV)])) (fun j => i ≤ j ∧ j ≤ i + L) (fun j => i + L - j) i ?_ ⟨Nat.le_refl _, by omega⟩ fun j hj => ?_
      · exact Leads_env (by repeat (first | exact sub_nil | refine sub_cons rfl ?_)) (List.Sublist.refl _)
      obtain ⟨hj1, hj2⟩ := hj
      by_cases hlj : j < i + L
      · have hjs : j < s.length := by omega
        have hpj := hrun.in_ j hjs hj1 hlj
        have hfj := figure_any s[j]
        rw [figureF_eq, hpj] at hfj
        (repeat' (first | refine WP_seq ?_ | refine WP_region ?_ | refine WPL_nil ?_ | (apply WPL_t; (first | exact WT_move rfl | exact WT_assign rfl | exact WT_pick (b := true) rfl (fun _ => rfl) (fun e => by cases e) | (apply g_bin; first | exact WT_lss rfl rfl | exact WT_add rfl rfl) | (apply g_call; first | exact WT_lent rfl rfl)); exact rfl) | (apply WPL_gt; exact rfl; exact rfl; exact rfl; (first | exact WT_move rfl | (apply g_idxt; first | exact WT_idxt rfl rfl rfl)); exact rfl) | refine WP_block ?_ | refine WP_skip ?_ | refine WP_cond_t rfl ?_ | (apply WPL_on0; exact rfl; exact rfl; exact rfl; exact rfl; (apply g_callf; first | (refine WO_call Tryd.func32 rfl hfj rfl ?_; rintro _ _ ⟨rfl, rfl⟩))) | (refine WPL_case rfl rfl (fun hb => ?_) (fun hb => ?_) <;> (repeat (first | replace hb := dec_t hb | replace hb := dec_f hb)) <;> (try (exfalso; first | omega)))))
        all_goals (try (exfalso; first | contradiction | omega))
        exact ⟨j + 1, ⟨by omega, by omega⟩, by omega, Leads_env (by repeat (first | exact sub_nil | refine sub_cons rfl ?_)) (List.Sublist.refl _)⟩
      have hje : j = i + L := by omega
      subst hje
      by_cases hend : i + L < s.length
      · have hpj := hrun.out_ hend
        have hfj := figure_any s[i + L]
        rw [figureF_eq, hpj] at hfj
        (repeat' (first | refine WP_seq ?_ | refine WP_region ?_ | refine WPL_nil ?_ | (apply WPL_t; (first | exact WT_move rfl | exact WT_assign rfl | exact WT_pick (b := true) rfl (fun _ => rfl) (fun e => by cases e) | exact WT_extract rfl rfl | (apply g_bin; first | exact WT_lss rfl rfl) | (apply g_slice; first | exact WT_sslb rfl rfl rfl rfl) | (apply g_call; first | exact WT_lent rfl rfl) | (apply g_un; first | exact WT_not rfl)); exact rfl) | (apply WPL_gt; exact rfl; exact rfl; exact rfl; (first | exact WT_move rfl | (apply g_idxt; first | exact WT_idxt rfl rfl rfl)); exact rfl) | refine WP_ret ?_ | refine WP_exit ?_ | refine WP_cond_t rfl ?_ | refine WP_cond_f rfl ?_ | (apply WPL_op0; exact rfl; first | (apply g_callf; first | (refine WO_call Tryd.func33 rfl hnu rfl ?_; rintro _ _ ⟨rfl, rfl⟩))) | (apply WPL_on0; exact rfl; exact rfl; exact rfl; exact rfl; (apply g_callf; first | (refine WO_call Tryd.func32 rfl hfj rfl ?_; rintro _ _ ⟨rfl, rfl⟩))) | (refine WPL_case rfl rfl (fun hb => ?_) (fun hb => ?_) <;> (repeat (first | replace hb := dec_t hb | replace hb := dec_f hb)) <;> (try (exfalso; first | omega)))))
        all_goals (try (exfalso; first | contradiction | omega))
        all_goals (refine ⟨.inr rfl, retw (loc' := []) (ret3 rfl (.tmp rfl) (.tmp rfl) (.tmp rfl) (List.nil_sublist _) ⟨rfl, rfl⟩) ?_ ⟨rfl, rfl⟩⟩)
        all_goals exact Ims.tup (.cons Im.nil (.cons (Im.refl _) (.cons (Im.refl _) .nil)))
      · skip
        (repeat' (first | refine WP_seq ?_ | refine WP_region ?_ | refine WPL_nil ?_ | (apply WPL_t; (first | exact WT_move rfl | exact WT_assign rfl | exact WT_pick (b := false) rfl (fun e => by cases e) (fun _ => rfl) | exact WT_extract rfl rfl | (apply g_bin; first | exact WT_lss rfl rfl) | (apply g_slice; first | exact WT_sslb rfl rfl rfl rfl) | (apply g_call; first | exact WT_lent rfl rfl) | (apply g_un; first | exact WT_not rfl)); exact rfl) | (refine WPL_off rfl rfl rfl rfl rfl ?_) | refine WP_ret ?_ | refine WP_exit ?_ | refine WP_cond_t rfl ?_ | refine WP_cond_f rfl ?_ | (apply WPL_op0; exact rfl; first | (apply g_callf; first | (refine WO_call Tryd.func33 rfl hnu rfl ?_; rintro _ _ ⟨rfl, rfl⟩))) | (refine WPL_case rfl rfl (fun hb => ?_) (fun hb => ?_) <;> (repeat (first | replace hb := dec_t hb | replace hb := dec_f hb)) <;> (try (exfalso; first | omega)))))
        all_goals (try (exfalso; first | contradiction | omega))
        all_goals (refine ⟨.inr rfl, retw (loc' := []) (ret3 rfl (.tmp rfl) (.tmp rfl) (.tmp rfl) (List.nil_sublist _) ⟨rfl, rfl⟩) ?_ ⟨rfl, rfl⟩⟩)
        all_goals exact Ims.tup (.cons Im.nil (.cons (Im.refl _) (.cons (Im.refl _) .nil)))
    | other h1 h2 h3 h4 =>
      rw [lexF_drop_bad hlt hr0] at hinv
      rw [h1] at hsp
      rw [h2] at hle
      rw [h3] at hfi
      rw [h4] at hsg
      rw [hinv]
      have hne : ¬ (s[i].toNat : Int) = 47 := fun e => by
        have e2 : s[i] = 47 := UInt8.toNat_inj.1 (show s[i].toNat = 47 by omega)
        rw [e2, sign47] at h4; cases h4
      (repeat' (first | refine WP_seq ?_ | refine WP_region ?_ | refine WPL_nil ?_ | (apply WPL_t; (first | exact WT_move rfl | exact WT_assign rfl | exact WT_pick (b := false) rfl (fun e => by cases e) (fun _ => rfl) | (apply g_bin; first | exact WT_lss rfl rfl | exact WT_eql rfl rfl) | (apply g_call; first | exact WT_lent rfl rfl) | (apply g_un; first | exact WT_not rfl) | (apply g_idxt; first | exact WT_idxt rfl rfl rfl)); exact rfl) | (refine WPL_off rfl rfl rfl rfl rfl ?_) | refine WP_block ?_ | refine WP_skip ?_ | refine WP_ret ?_ | refine WP_cond_t rfl ?_ | refine WP_cond_f rfl ?_ | (apply WPL_op0; exact rfl; first | (apply g_callf; first | (refine WO_call Tryd.func21 rfl hsp rfl ?_; rintro _ _ ⟨rfl, rfl⟩) | (refine WO_call Tryd.func30 rfl hle rfl ?_; rintro _ _ ⟨rfl, rfl⟩) | (refine WO_call Tryd.func32 rfl hfi rfl ?_; rintro _ _ ⟨rfl, rfl⟩) | (refine WO_call Tryd.func34 rfl hsg rfl ?_; rintro _ _ ⟨rfl, rfl⟩))) | (refine WPL_case rfl rfl (fun hb => ?_) (fun hb => ?_) <;> (repeat (first | replace hb := dec_t hb | replace hb := dec_f hb)) <;> (try (exfalso; first | contradiction))) | (refine WP_cond rfl (fun hb => ?_) (fun hb => ?_) <;> (repeat (first | replace hb := dec_t hb | replace hb := dec_f hb)) <;> (try (exfalso; first | omega)))))
      all_goals (try (exfalso; first | contradiction | omega))
      all_goals (refine ⟨.inr rfl, retw (loc' := []) (ret3 rfl (.tmp rfl) (.tmp rfl) (.tmp rfl) (List.nil_sublist _) ⟨rfl, rfl⟩) ?_ ⟨rfl, rfl⟩⟩)
      all_goals exact Ims.tup (.cons Im.nil (.cons (Im.refl _) (.cons (Im.refl _) .nil)))
  · have hie : i = s.length := by omega
    subst hie
    rw [List.drop_length, lexF_nil] at hinv
    rw [hinv]
    (repeat' (first | (apply cut_at 29; refine Stop.out ?_) | refine WP_seq ?_ | refine WP_region ?_ | refine WPL_nil ?_ | (apply WPL_t; (first | exact WT_move rfl | (apply g_bin; first | exact WT_lss rfl rfl) | (apply g_call; first | exact WT_lent rfl rfl)); exact rfl) | refine WP_exit ?_ | (refine WP_cond rfl (fun hb => ?_) (fun hb => ?_) <;> (repeat (first | replace hb := dec_t hb | replace hb := dec_f hb)) <;> (try (exfalso; first | omega)))))
    all_goals (try (exfalso; omega))
    refine ⟨WP_leads (Leads_fvec (k := 0) (t := 5) (E := eTok) acc rfl rfl rfl rfl (hby := by show _ * 40 ≤ _; omega)) ?_⟩
    (repeat' (first | refine WP_seq ?_ | refine WP_region ?_ | refine WPL_nil ?_ | (apply WPL_t; (first | exact WT_move rfl | exact WT_assign rfl); exact rfl) | refine WP_ret ?_))
    refine ⟨.inr rfl, retw (loc' := []) (ret3 rfl (.tmp rfl) (.tmp rfl) (.tmp rfl) (List.nil_sublist _) ⟨rfl, rfl⟩) ?_ ⟨rfl, rfl⟩⟩
    show Im _ (tup [isl eTok (acc ++ []), exI .i64 0, exI .i64 0])
    rw [List.append_nil]
    exact Ims.tup (.cons (Im.refl _) (.cons (Im.refl _) (.cons (Im.refl _) .nil)))
end Go.Proofs.YtdpabdbeecbnmaaDoor

/- Frame: array literals. No program in sight. -/
namespace Go.Fr
open Go.RowKit Go.Kx
section
variable {C : Cx} {S : (Nat → Prop) → World → World → Prop} {env : Env} {loc : List Ent} {dst : Option Tmp} {ty : TypeId} {pos : String} {af : Array Edge} {g : Option (Nat × Bool)}
/-- An array literal, its cells one by one. -/
theorem WT_buildA {t e m : TypeId} {parts : Array (Nat × Operand)} {pq : List (Nat × List SP)} {sz bt sze bte : Nat} {z ze : Value} {qs : List SP} (ht : C.P.underlying t = some (.array m e)) [hT : TI C.P t sz bt z] [hE : TI C.P e sze bte ze] (hp : PartsO env (fun i => some (i * sze, sze)) parts.toList pq) (hq : Nf (fillC (z.cells.toList.map ex) pq) qs := by simp only [fillC, putC, Value.cells, List.foldl_cons, List.foldl_nil, List.map_cons, List.map_nil, List.length_cons, List.length_nil, Nat.zero_add, Nat.reduceAdd, Nat.reduceMul, Nat.mul_one, List.take_succ_cons, List.take_zero, List.drop_succ_cons, List.drop_zero, List.nil_append, List.cons_append, List.drop_nil, List.take_nil, List.set_cons_zero, List.set_cons_succ]; exact ⟨rfl⟩) (hle : pq.all (fun x => Nat.ble (x.1 + x.2.length) z.cells.size) = true := by rfl) :
    WT C S ⟨dst, .build t parts, ty, pos, af, g⟩ (agg qs) env loc := by
  constructor
  intro F a w hR
  obtain ⟨ti, hi, _, _, hz⟩ := hT.out
  obtain ⟨te, hie, hse, _, _⟩ := hE.out
  obtain ⟨r, h1, h2⟩ := fill_rel (hp.vals hR) (ex_cells z.cells) (fun x hx => by
    have := List.all_eq_true.1 hle x hx
    simpa using Nat.le_of_ble_eq_true this)
  rw [hq.h]
  refine ⟨.agg r, ⟨r.toList, by simp, h2⟩, fun w' _ => ?_⟩
  have hb : C.P.built t (parts.map fun x => (x.1, a.eval x.2)).toList = some r := by
    simp only [Program.built, hi, ht, hz, hie, hse]
    rw [Array.toList_map]; exact h1
  have := run_build (P := C.P) w' t (parts.map fun x => (x.1, a.eval x.2)) r hb
  generalize a.eval = ρ at this ⊢
  simp only [execOp, Sem.run_bind, this]
  rfl
theorem ba_app (p q : List UInt8) : (⟨p.toArray⟩ : ByteArray) ++ ⟨q.toArray⟩ = ⟨(p ++ q).toArray⟩ := by
  apply ByteArray.ext
  rw [ByteArray.data_append]
  simp
/-- Two texts, one behind the other. -/
theorem WT_catT {x y : Operand} {t u : TypeId} {p q : List UInt8} (hx : ev env x = some (exT p)) (hy : ev env y = some (exT q)) (hl : p.length + q.length ≤ 9223372036854775807 := by first | omega | (simp; omega)) : WT C S ⟨dst, .binOp .add t x y u, ty, pos, af, g⟩ (exT (p ++ q)) env loc := by
  unfold exT
  rw [← ba_app p q]
  exact WT_cat hx hy (by show p.toArray.size + q.toArray.size ≤ _; simpa using hl)
end
end Go.Fr

/- Chapter 03: Lex. -/
-- STRINGS
-- ROWS
-- PRUNEC
-- IFACE
-- IFNIL
-- ARRB
namespace Go.Fr
theorem at_regionD (id : Nat) {C : Cx} {ops : Array Oper} {dr : Bool} {y : Code} {T : Exit → Act → World → Prop} {env : Env} {loc : List Ent} (h : WPR C (.seq (.region id ops dr) y) T env loc) : WPR C (.seq (.region id ops dr) y) T env loc := h
end Go.Fr
namespace Go.Proofs.YtdpabdbeecbnmaaDoor
open Go Go.RowKit Go.Kx Go.Fr Go.Lx
set_option maxHeartbeats 4000000 in
set_option maxRecDepth 100000 in
theorem lex3_any (s : List UInt8) : FnC Tryd.prog 11 [exT s] [Lab] (fun p loc => p = lexV (lexA s) ∧ loc = []) := by
  generalize hz : lexA s = z
  unfold lexV
  unfold lexA at hz
  by_cases hmx : 65536 < s.length
  · rw [if_pos hmx] at hz
    subst hz
    refine FnC_enterD Tryd.func11 rfl Tryd.ntmps11 rfl fun w0 F0 out => ?_
    (repeat' (first | refine WPR_seq ?_ | refine WP_seq ?_ | refine WP_region ?_ | refine WPL_nil ?_ | (apply WPL_t; (first | exact WT_move rfl | (apply g_bin; first | exact WT_gtr rfl rfl) | (apply g_call; first | exact WT_lent rfl rfl)); exact rfl) | refine WP_ret ?_ | (apply WPL_op0; exact rfl; first | (apply g_alloc; refine WO_alloc ?_; intro _) | (apply g_store; first | refine WO_store (k := 0) (l0 := []) rfl rfl rfl ?_ | refine WO_store (k := 1) (l0 := []) rfl rfl rfl ?_ | refine WO_store (k := 2) (l0 := []) rfl rfl rfl ?_)) | (refine WP_cond rfl (fun hb => ?_) (fun hb => ?_) <;> (repeat (first | replace hb := dec_t hb | replace hb := dec_f hb)) <;> (try (exfalso; first | omega)))))
    all_goals (try (exfalso; omega))
    refine raw_retD0 rfl ⟨.inr rfl, retw (loc' := []) (ret3 rfl (.cell1 (k := 2) rfl rfl rfl rfl rfl) (.cell1 (k := 1) rfl rfl rfl rfl rfl) (.cell1 (k := 0) rfl rfl rfl rfl rfl) (List.nil_sublist _) ⟨rfl, rfl⟩) ?_ ⟨rfl, rfl⟩⟩
    exact Ims.tup (.cons Im.nil (.cons (Im.refl _) (.cons (Im.refl _) .nil)))
  rw [if_neg hmx] at hz
  have hmax : s.length ≤ 65536 := by omega
  refine FnC_enterD Tryd.func11 rfl Tryd.ntmps11 rfl fun w0 F0 out => ?_
  (repeat' (first | (apply at_regionD 3; refine Stop.out ?_) | refine WPR_seq ?_ | refine WP_seq ?_ | refine WP_region ?_ | refine WPL_nil ?_ | (apply WPL_t; (first | exact WT_move rfl | (apply g_bin; first | exact WT_gtr rfl rfl) | (apply g_call; first | exact WT_lent rfl rfl)); exact rfl) | refine WP_skip ?_ | (apply WPL_op0; exact rfl; first | (apply g_alloc; refine WO_alloc ?_; intro _)) | (refine WP_cond rfl (fun hb => ?_) (fun hb => ?_) <;> (repeat (first | replace hb := dec_t hb | replace hb := dec_f hb)) <;> (try (exfalso; first | omega)))))
  all_goals (try (exfalso; omega))
  rename_i b2 b3 b4
  refine ⟨?_⟩
  refine WPR_region ?_
  refine WPLR_t (WT_mkfunc (vs := [.pointer (some ⟨b2, 0, none⟩), .pointer (some ⟨b3, 0, none⟩), .pointer (some ⟨b4, 0, none⟩)]) rfl) rfl ?_
  refine WPLR_deferF rfl ?_ rfl
  refine WPR_of ?_
  (repeat' (first | refine WP_seq ?_ | refine WP_region ?_ | refine WPL_nil ?_ | (apply WPL_t; (first | exact WT_move rfl | exact WT_assign rfl | (apply g_fld; first | exact WT_field rfl rfl rfl) | (apply g_build; first | exact WT_build2 rfl rfl (by repeat (first | exact PartsO.nil | (apply PartsO.cons; exact rfl; exact inferInstance; exact rfl; exact rfl))) | exact WT_buildA rfl (by repeat (first | exact PartsO.nil | (apply PartsO.cons; exact rfl; exact inferInstance; exact rfl; exact rfl))))); exact rfl) | refine WP_block ?_ | (apply WPL_op0; exact rfl; first | (apply g_box; refine WO_box rfl ?_; intro _) | (apply g_alloc; refine WO_alloc ?_; intro _) | (apply g_store; first | refine WO_store (k := 0) (l0 := []) rfl rfl rfl ?_))))
  rename_i b5 b6
  refine WP_loop (fun x : Nat × Option Addr × Nat × List TokD => ([(0, exT s), (2, ex (.pointer (some ⟨b2, 0, none⟩))), (3, ex (.pointer (some ⟨b3, 0, none⟩))), (4, ex (.pointer (some ⟨b4, 0, none⟩))), (5, ex (.pointer (some ⟨b5, 0, none⟩))), (6, ex (.pointer (some ⟨b6, 0, none⟩)))], [row b6 49 3 [exT s, exI .i64 (x.1 : Int), ex (.slice x.2.1 x.2.2.2.length x.2.2.1)], vec (.slice x.2.1 x.2.2.2.length x.2.2.1) 35 4 x.2.2.2.length (x.2.2.2.flatMap tokV), row b5 46 6 [ex (.func (.func 24) #[] #[]), ex (.func (.func 25) #[] #[]), ex (.func (.func 26) #[] #[]), ex (.func (.func 27) #[] #[]), ex (.func (.func 28) #[] #[]), ex (.func (.func 24) #[] #[])], row b4 24 1 [exI .i64 0], row b3 3 1 [exI .i64 0], row b2 23 1 [ex (.slice none 0 0)], Lab])) (fun x => x.1 ≤ s.length ∧ x.2.2.2.length ≤ x.1 ∧ lexF 0 s = (lexF x.1 (s.drop x.1)).map (x.2.2.2 ++ ·)) (fun x => s.length - x.1) (0, none, 0, []) ?_ ⟨Nat.zero_le _, Nat.le_refl _, ?_⟩ fun x hx => ?_
  · refine Leads.trans (LeadsS_vec_nil (T := 35) (sz := 4)).leads ?_
    refine Leads.trans (Leads_perm (.swap _ _ _)) ?_
    exact Leads_env (by repeat (first | exact sub_nil | refine sub_cons rfl ?_)) (List.Sublist.refl _)
  · show lexF 0 s = (lexF 0 s).map ([] ++ ·)
    cases lexF 0 s <;> rfl
  obtain ⟨i, oa, c, acc⟩ := x
  obtain ⟨hi, hacc, hinv⟩ := hx
  simp only at hi hacc hinv ⊢
  have hpanic : ∀ {env : Env}, lexF i (s.drop i) = .error i → Fr.look 2 env = some (ex (.pointer (some ⟨b2, 0, none⟩))) → Fr.look 3 env = some (ex (.pointer (some ⟨b3, 0, none⟩))) → Fr.look 4 env = some (ex (.pointer (some ⟨b4, 0, none⟩))) → ∀ e2 : Ent, rawP (Cx.withD ⟨Tryd.prog, w0, F0, footX [Lab], out, 39, []⟩ ⟨.fn (.func 23) #[.pointer (some ⟨b2, 0, none⟩), .pointer (some ⟨b3, 0, none⟩), .pointer (some ⟨b4, 0, none⟩)], #[]⟩) (retD ⟨Tryd.prog, w0, F0, footX [Lab], out, 39, []⟩ Tryd.f11 fun p loc => p = tup [isl eTok z.1, exI .i64 z.2.1, exI .i64 z.2.2] ∧ loc = []) (.panic [{ v := .iface 42 (.int .i64 (i : Int)), recovered := false }]) env ([e2, row b4 24 1 [exI .i64 0], row b3 3 1 [exI .i64 0], row b2 23 1 [ex (.slice none 0 0)], Lab]) := by
    intro env he g2 g3 g4 e2
    rw [he] at hinv
    rw [show lexF 0 s = .error i from hinv] at hz
    subst hz
    refine raw_D (vs := [.pointer (some ⟨b2, 0, none⟩), .pointer (some ⟨b3, 0, none⟩), .pointer (some ⟨b4, 0, none⟩)]) rfl rfl (.one 3 rfl (.one 2 rfl (.one 1 rfl .nil))) Tryd.func23 rfl rfl (lex1_panic b2 b3 b4 _ _ _ i) (.ex (.ex (.ex .nil))) ?_
    rintro u' loc' ⟨rfl, rfl⟩
    refine ⟨rfl, .inr rfl, retw (loc' := []) (ret3 rfl (.cell1 (k := 0) g2 rfl rfl rfl rfl) (.cell1 (k := 1) g3 rfl rfl rfl rfl) (.cell1 (k := 2) g4 rfl rfl rfl rfl) (List.nil_sublist _) ⟨rfl, rfl⟩) ?_ ⟨rfl, rfl⟩⟩
    exact Ims.tup (.cons Im.nil (.cons (Im.refl _) (.cons (Im.refl _) .nil)))
  have hpanicv : ∀ {env : Env}, lexF i (s.drop i) = .error i → Fr.look 2 env = some (ex (.pointer (some ⟨b2, 0, none⟩))) → Fr.look 3 env = some (ex (.pointer (some ⟨b3, 0, none⟩))) → Fr.look 4 env = some (ex (.pointer (some ⟨b4, 0, none⟩))) → ∀ e1 e2 : Ent, rawP (Cx.withD ⟨Tryd.prog, w0, F0, footX [Lab], out, 39, []⟩ ⟨.fn (.func 23) #[.pointer (some ⟨b2, 0, none⟩), .pointer (some ⟨b3, 0, none⟩), .pointer (some ⟨b4, 0, none⟩)], #[]⟩) (retD ⟨Tryd.prog, w0, F0, footX [Lab], out, 39, []⟩ Tryd.f11 fun p loc => p = tup [isl eTok z.1, exI .i64 z.2.1, exI .i64 z.2.2] ∧ loc = []) (.panic [{ v := .iface 42 (.int .i64 (i : Int)), recovered := false }]) env (e1 :: [e2, row b4 24 1 [exI .i64 0], row b3 3 1 [exI .i64 0], row b2 23 1 [ex (.slice none 0 0)], Lab]) := by
    intro env he g2 g3 g4 e1 e2 F a w hR
    obtain ⟨F', hR'⟩ := Leads_drop (C := Cx.withD ⟨Tryd.prog, w0, F0, footX [Lab], out, 39, []⟩ ⟨.fn (.func 23) #[.pointer (some ⟨b2, 0, none⟩), .pointer (some ⟨b3, 0, none⟩), .pointer (some ⟨b4, 0, none⟩)], #[]⟩) (env := env) (List.sublist_cons_self e1 _) F a w hR
    exact hpanic he g2 g3 g4 e2 F' a w hR'
  by_cases hlt : i < s.length
  · have hcs := class_any s[i]
    have hcf := classF_eq s[i]
    generalize classF s[i] = cf at hcs hcf
    by_cases h1 : letterB s[i] = true
    · rw [if_pos h1] at hcf
      subst hcf
      have hst := name3_any b6 i s oa c acc hlt hmax hacc h1
      unfold scanL at hst
      (repeat' (first | (apply at_dst 34; refine WPL_callvP (vs := []) (args := [ex (.pointer (some ⟨b6, 0, none⟩))]) rfl .nil (.one 0 rfl (.one 0 rfl .nil)) Tryd.func26 rfl hst rfl ?_ ?_) | refine WP_seq ?_ | refine WP_region ?_ | refine WPL_nil ?_ | (apply WPL_t; (first | exact WT_move rfl | (apply g_load; first | exact WT_load (k := 0) rfl rfl rfl rfl | exact WT_load (k := 2) rfl rfl rfl rfl) | (apply g_fld; first | exact WT_field rfl rfl rfl) | (apply g_bin; first | exact WT_lss rfl rfl) | (apply g_index; first | exact WT_indexa rfl rfl rfl) | (apply g_call; first | exact WT_lent rfl rfl) | (apply g_idxt; first | exact WT_idxt rfl rfl rfl) | (apply g_nilck; first | exact WT_nilck rfl)); exact rfl) | refine WP_block ?_ | refine WP_skip ?_ | (apply WPL_op0; exact rfl; first | (apply g_callf; first | (refine WO_call Tryd.func29 rfl hcs rfl ?_; rintro _ _ ⟨rfl, rfl⟩))) | (refine WP_cond rfl (fun hb => ?_) (fun hb => ?_) <;> (repeat (first | replace hb := dec_t hb | replace hb := dec_f hb)) <;> (try (exfalso; first | omega)))))
      all_goals (try (exfalso; first | contradiction | omega))
      · (rintro p loc ⟨n, oa2, c2, acc2, rfl, g1, g2, g3, g4⟩; (repeat' (first | refine WPL_nil ?_)); exact ⟨(i + n, oa2, c2, acc2), ⟨g2, by show acc2.length ≤ i + n; omega, hinv.trans g4⟩, by show s.length - (i + n) < s.length - i; omega, Leads_env (by repeat (first | exact sub_nil | refine sub_cons rfl ?_)) (List.Sublist.refl _)⟩)
      · rintro ch loc ⟨e1, rfl, rfl⟩
        refine hpanic e1 ?_ ?_ ?_ _ <;> rfl
    rw [if_neg h1] at hcf
    by_cases h2 : digitB s[i] = true
    · rw [if_pos h2] at hcf
      subst hcf
      have hst := number3_any b6 i s oa c acc hlt hmax hacc h2
      unfold scanL at hst
      (repeat' (first | (apply at_dst 34; refine WPL_callvP (vs := []) (args := [ex (.pointer (some ⟨b6, 0, none⟩))]) rfl .nil (.one 0 rfl (.one 0 rfl (.dup 4 rfl rfl .nil))) Tryd.func27 rfl hst rfl ?_ ?_) | refine WP_seq ?_ | refine WP_region ?_ | refine WPL_nil ?_ | (apply WPL_t; (first | exact WT_move rfl | (apply g_load; first | exact WT_load (k := 0) rfl rfl rfl rfl | exact WT_load (k := 2) rfl rfl rfl rfl) | (apply g_fld; first | exact WT_field rfl rfl rfl) | (apply g_bin; first | exact WT_lss rfl rfl) | (apply g_index; first | exact WT_indexa rfl rfl rfl) | (apply g_call; first | exact WT_lent rfl rfl) | (apply g_idxt; first | exact WT_idxt rfl rfl rfl) | (apply g_nilck; first | exact WT_nilck rfl)); exact rfl) | refine WP_block ?_ | refine WP_skip ?_ | (apply WPL_op0; exact rfl; first | (apply g_callf; first | (refine WO_call Tryd.func29 rfl hcs rfl ?_; rintro _ _ ⟨rfl, rfl⟩))) | (refine WP_cond rfl (fun hb => ?_) (fun hb => ?_) <;> (repeat (first | replace hb := dec_t hb | replace hb := dec_f hb)) <;> (try (exfalso; first | omega)))))
      all_goals (try (exfalso; first | contradiction | omega))
      · (rintro p loc ⟨n, oa2, c2, acc2, rfl, g1, g2, g3, g4⟩; (repeat' (first | refine WPL_nil ?_)); exact ⟨(i + n, oa2, c2, acc2), ⟨g2, by show acc2.length ≤ i + n; omega, hinv.trans g4⟩, by show s.length - (i + n) < s.length - i; omega, Leads_env (by repeat (first | exact sub_nil | refine sub_cons rfl ?_)) (List.Sublist.refl _)⟩)
      · rintro ch loc ⟨e1, rfl, rfl⟩
        refine hpanic e1 ?_ ?_ ?_ _ <;> rfl
    rw [if_neg h2] at hcf
    by_cases h5 : s[i] = 95
    · rw [if_pos h5] at hcf
      subst hcf
      have hst := wrong3_any b6 i s (ex (.slice oa acc.length c))
      (repeat' (first | (apply at_dst 34; refine WPL_callvP (vs := []) (args := [ex (.pointer (some ⟨b6, 0, none⟩))]) rfl .nil (.one 0 rfl .nil) Tryd.func24 rfl hst rfl ?_ ?_) | refine WP_seq ?_ | refine WP_region ?_ | refine WPL_nil ?_ | (apply WPL_t; (first | exact WT_move rfl | (apply g_load; first | exact WT_load (k := 0) rfl rfl rfl rfl | exact WT_load (k := 2) rfl rfl rfl rfl) | (apply g_fld; first | exact WT_field rfl rfl rfl) | (apply g_bin; first | exact WT_lss rfl rfl) | (apply g_index; first | exact WT_indexa rfl rfl rfl) | (apply g_call; first | exact WT_lent rfl rfl) | (apply g_idxt; first | exact WT_idxt rfl rfl rfl) | (apply g_nilck; first | exact WT_nilck rfl)); exact rfl) | refine WP_block ?_ | refine WP_skip ?_ | (apply WPL_op0; exact rfl; first | (apply g_callf; first | (refine WO_call Tryd.func29 rfl hcs rfl ?_; rintro _ _ ⟨rfl, rfl⟩))) | (refine WP_cond rfl (fun hb => ?_) (fun hb => ?_) <;> (repeat (first | replace hb := dec_t hb | replace hb := dec_f hb)) <;> (try (exfalso; first | omega)))))
      all_goals (try (exfalso; first | contradiction | omega))
      · rintro p loc hF; exact hF.elim
      · rintro ch loc ⟨rfl, rfl⟩
        refine hpanicv (at_wrong hlt (by rw [h5]; decide) (by rw [h5]; decide) (by rw [h5]; decide) (by rw [h5]; decide)) ?_ ?_ ?_ _ _ <;> rfl
    rw [if_neg h5] at hcf
    by_cases h3 : spaceB s[i] = true
    · rw [if_pos h3] at hcf
      subst hcf
      have hst := space3_any b6 i s oa c acc hlt hmax h3
      unfold scanL at hst
      (repeat' (first | (apply at_dst 34; refine WPL_callvP (vs := []) (args := [ex (.pointer (some ⟨b6, 0, none⟩))]) rfl .nil (.one 0 rfl (.one 0 rfl .nil)) Tryd.func25 rfl hst rfl ?_ ?_) | refine WP_seq ?_ | refine WP_region ?_ | refine WPL_nil ?_ | (apply WPL_t; (first | exact WT_move rfl | (apply g_load; first | exact WT_load (k := 0) rfl rfl rfl rfl | exact WT_load (k := 2) rfl rfl rfl rfl) | (apply g_fld; first | exact WT_field rfl rfl rfl) | (apply g_bin; first | exact WT_lss rfl rfl) | (apply g_index; first | exact WT_indexa rfl rfl rfl) | (apply g_call; first | exact WT_lent rfl rfl) | (apply g_idxt; first | exact WT_idxt rfl rfl rfl) | (apply g_nilck; first | exact WT_nilck rfl)); exact rfl) | refine WP_block ?_ | refine WP_skip ?_ | (apply WPL_op0; exact rfl; first | (apply g_callf; first | (refine WO_call Tryd.func29 rfl hcs rfl ?_; rintro _ _ ⟨rfl, rfl⟩))) | (refine WP_cond rfl (fun hb => ?_) (fun hb => ?_) <;> (repeat (first | replace hb := dec_t hb | replace hb := dec_f hb)) <;> (try (exfalso; first | omega)))))
      all_goals (try (exfalso; first | contradiction | omega))
      · (rintro p loc ⟨n, oa2, c2, acc2, rfl, g1, g2, g3, g4⟩; (repeat' (first | refine WPL_nil ?_)); exact ⟨(i + n, oa2, c2, acc2), ⟨g2, by show acc2.length ≤ i + n; omega, hinv.trans g4⟩, by show s.length - (i + n) < s.length - i; omega, Leads_env (by repeat (first | exact sub_nil | refine sub_cons rfl ?_)) (List.Sublist.refl _)⟩)
      · rintro ch loc ⟨e1, rfl, rfl⟩
        refine hpanic e1 ?_ ?_ ?_ _ <;> rfl
    rw [if_neg h3] at hcf
    by_cases h4 : signB s[i] = true
    · rw [if_pos h4] at hcf
      subst hcf
      have hst := sign3_any b6 i s oa c acc hlt hmax hacc h4
      unfold scanL at hst
      (repeat' (first | (apply at_dst 34; refine WPL_callvP (vs := []) (args := [ex (.pointer (some ⟨b6, 0, none⟩))]) rfl .nil (.one 0 rfl (.one 0 rfl .nil)) Tryd.func28 rfl hst rfl ?_ ?_) | refine WP_seq ?_ | refine WP_region ?_ | refine WPL_nil ?_ | (apply WPL_t; (first | exact WT_move rfl | (apply g_load; first | exact WT_load (k := 0) rfl rfl rfl rfl | exact WT_load (k := 2) rfl rfl rfl rfl) | (apply g_fld; first | exact WT_field rfl rfl rfl) | (apply g_bin; first | exact WT_lss rfl rfl) | (apply g_index; first | exact WT_indexa rfl rfl rfl) | (apply g_call; first | exact WT_lent rfl rfl) | (apply g_idxt; first | exact WT_idxt rfl rfl rfl) | (apply g_nilck; first | exact WT_nilck rfl)); exact rfl) | refine WP_block ?_ | refine WP_skip ?_ | (apply WPL_op0; exact rfl; first | (apply g_callf; first | (refine WO_call Tryd.func29 rfl hcs rfl ?_; rintro _ _ ⟨rfl, rfl⟩))) | (refine WP_cond rfl (fun hb => ?_) (fun hb => ?_) <;> (repeat (first | replace hb := dec_t hb | replace hb := dec_f hb)) <;> (try (exfalso; first | omega)))))
      all_goals (try (exfalso; first | contradiction | omega))
      · (rintro p loc ⟨n, oa2, c2, acc2, rfl, g1, g2, g3, g4⟩; (repeat' (first | refine WPL_nil ?_)); exact ⟨(i + n, oa2, c2, acc2), ⟨g2, by show acc2.length ≤ i + n; omega, hinv.trans g4⟩, by show s.length - (i + n) < s.length - i; omega, Leads_env (by repeat (first | exact sub_nil | refine sub_cons rfl ?_)) (List.Sublist.refl _)⟩)
      · rintro ch loc ⟨e1, rfl, rfl⟩
        refine hpanic e1 ?_ ?_ ?_ _ <;> rfl
    · rw [if_neg h4] at hcf
      subst hcf
      have hst := wrong3_any b6 i s (ex (.slice oa acc.length c))
      (repeat' (first | (apply at_dst 34; refine WPL_callvP (vs := []) (args := [ex (.pointer (some ⟨b6, 0, none⟩))]) rfl .nil (.one 0 rfl .nil) Tryd.func24 rfl hst rfl ?_ ?_) | refine WP_seq ?_ | refine WP_region ?_ | refine WPL_nil ?_ | (apply WPL_t; (first | exact WT_move rfl | (apply g_load; first | exact WT_load (k := 0) rfl rfl rfl rfl | exact WT_load (k := 2) rfl rfl rfl rfl) | (apply g_fld; first | exact WT_field rfl rfl rfl) | (apply g_bin; first | exact WT_lss rfl rfl) | (apply g_index; first | exact WT_indexa rfl rfl rfl) | (apply g_call; first | exact WT_lent rfl rfl) | (apply g_idxt; first | exact WT_idxt rfl rfl rfl) | (apply g_nilck; first | exact WT_nilck rfl)); exact rfl) | refine WP_block ?_ | refine WP_skip ?_ | (apply WPL_op0; exact rfl; first | (apply g_callf; first | (refine WO_call Tryd.func29 rfl hcs rfl ?_; rintro _ _ ⟨rfl, rfl⟩))) | (refine WP_cond rfl (fun hb => ?_) (fun hb => ?_) <;> (repeat (first | replace hb := dec_t hb | replace hb := dec_f hb)) <;> (try (exfalso; first | omega)))))
      all_goals (try (exfalso; first | contradiction | omega))
      · rintro p loc hF; exact hF.elim
      · rintro ch loc ⟨rfl, rfl⟩
        refine hpanicv (at_wrong hlt (by simpa using h3) (by simpa using h1) (by simpa using h2) (by simpa using h4)) ?_ ?_ ?_ _ _ <;> rfl
  · rw [show i = s.length by omega, List.drop_length, lexF_nil] at hinv
    have hinv : lexF 0 s = .ok acc := by rw [hinv]; show Except.ok _ = Except.ok _; simp
    rw [hinv] at hz
    subst hz
    (repeat' (first | refine WP_seq ?_ | refine WP_region ?_ | refine WPL_nil ?_ | (apply WPL_t; (first | exact WT_move rfl | (apply g_load; first | exact WT_load (k := 0) rfl rfl rfl rfl) | (apply g_fld; first | exact WT_field rfl rfl rfl) | (apply g_bin; first | exact WT_lss rfl rfl) | (apply g_call; first | exact WT_lent rfl rfl) | (apply g_nilck; first | exact WT_nilck rfl)); exact rfl) | refine WP_ret ?_ | refine WP_exit ?_ | (apply WPL_op0; exact rfl; first | (apply g_store; first | refine WO_store (k := 3) (l0 := []) rfl rfl rfl ?_ | refine WO_store (k := 4) (l0 := []) rfl rfl rfl ?_ | refine WO_store (k := 5) (l0 := []) rfl rfl rfl ?_)) | (refine WP_cond rfl (fun hb => ?_) (fun hb => ?_) <;> (repeat (first | replace hb := dec_t hb | replace hb := dec_f hb)) <;> (try (exfalso; first | omega)))))
    all_goals (try (exfalso; first | contradiction | omega))
    refine raw_D (vs := [.pointer (some ⟨b2, 0, none⟩), .pointer (some ⟨b3, 0, none⟩), .pointer (some ⟨b4, 0, none⟩)]) rfl rfl (.one 5 rfl (.one 4 rfl (.one 3 rfl .nil))) Tryd.func23 rfl rfl (lex1_idle b2 b3 b4 (ex (.slice oa acc.length c)) (exI .i64 0) (exI .i64 0)) (.ex (.ex (.ex .nil))) ?_
    rintro u' loc' ⟨rfl, rfl⟩
    refine ⟨rfl, retP_leads (Leads_fcell (j := 4) (k := 0) (i := 0) (E := eTok) acc rfl rfl rfl rfl rfl rfl (hby := by show acc.length * 40 ≤ _; omega)) ?_⟩
    exact ⟨.inr rfl, ret3 rfl (.cell1 (k := 0) rfl rfl rfl rfl rfl) (.cell1 (k := 1) rfl rfl rfl rfl rfl) (.cell1 (k := 2) rfl rfl rfl rfl rfl) (List.nil_sublist _) ⟨rfl, rfl⟩⟩
end Go.Proofs.YtdpabdbeecbnmaaDoor

/- Chapter 03: Same, Equal, Few, Valid of the specification; valid of the program. -/
-- STRINGS
-- ROWS
-- PRUNEC
-- IFACE
namespace Go.Lx
def keyT (t : TokD) : Int × List UInt8 × Int := (t.kind, t.text, t.n)
theorem keyT_iff {x y : TokD} : keyT x = keyT y ↔ x.kind = y.kind ∧ x.text = y.text ∧ x.n = y.n := by unfold keyT; simp
theorem sameL_iff {a b : List TokD} : sameL a b = true ↔ a.length = b.length ∧ ∀ i (h : i < a.length) (h2 : i < b.length), keyT a[i] = keyT b[i] := by
  unfold sameL
  rw [decide_eq_true_iff]
  constructor
  · intro h
    have hl : a.length = b.length := by simpa using congrArg List.length h
    refine ⟨hl, fun i h1 h2 => ?_⟩
    have := congrArg (fun l => l[i]?) h
    refine keyT_iff.2 ?_
    simpa [List.getElem?_map, h1, h2] using this
  · rintro ⟨hl, h⟩
    refine List.ext_getElem (by simpa using hl) fun i h1 h2 => ?_
    rw [List.getElem_map, List.getElem_map]
    exact h i (by simpa using h1) (by simpa using h2)
theorem sameL_no {a b : List TokD} (i : Nat) (h : i < a.length) (h2 : i < b.length) (hn : keyT a[i] ≠ keyT b[i]) : sameL a b = false := by
  cases e : sameL a b with
  | false => rfl
  | true => exact absurd ((sameL_iff.1 e).2 i h h2) hn
theorem sameL_len {a b : List TokD} (h : a.length ≠ b.length) : sameL a b = false := by
  cases e : sameL a b with
  | false => rfl
  | true => exact absurd (sameL_iff.1 e).1 h
end Go.Lx
namespace Go.Proofs.YtdpabdbeecbnmaaDoor
open Go Go.RowKit Go.Kx Go.Fr Go.Lx
set_option maxHeartbeats 1000000 in
set_option maxRecDepth 100000 in
theorem r3same_any (a b : List TokD) : FnC Tryd.prog 18 [isl eTok a, isl eTok b] [] (fun p loc => p = exB (sameL a b) ∧ loc = []) := by
  refine FnC_says (i := 0) rfl Says_isl fun ha => ?_
  refine FnC_says (i := 1) rfl Says_isl fun hb => ?_
  obtain ⟨ha, -⟩ := ha
  obtain ⟨hb, -⟩ := hb
  simp only [maxLen] at ha hb
  refine FnC_enter Tryd.func18 rfl Tryd.ntmps18 rfl fun w0 F0 out => ?_
  by_cases hl : a.length = b.length
  · (repeat' (first | refine WP_seq ?_ | refine WP_region ?_ | refine WPL_nil ?_ | (apply WPL_t; (first | exact WT_move rfl | exact WT_assign rfl | (apply g_bin; first | exact WT_neq rfl rfl) | (apply g_call; first | exact WT_len rfl rfl)); exact rfl) | refine WP_block ?_ | refine WP_skip ?_ | (refine WP_cond rfl (fun hb => ?_) (fun hb => ?_) <;> (repeat (first | replace hb := dec_t hb | replace hb := dec_f hb | replace hb := not_t hb | replace hb := not_f hb)) <;> (try (exfalso; first | omega)))))
    all_goals (try (exfalso; omega))
    refine WP_loop (fun i : Nat => ([(0, isl eTok a), (1, isl eTok b), (5, exI .i64 (i : Int))], [])) (fun i => i ≤ a.length ∧ ∀ j (h : j < a.length) (h2 : j < b.length), j < i → keyT a[j] = keyT b[j]) (fun i => a.length - i) 0 ?_ ⟨Nat.zero_le _, fun j _ _ h => by omega⟩ fun i hi => ?_
    · exact Leads_env (by repeat (first | exact sub_nil | refine sub_cons rfl ?_)) (List.Sublist.refl _)
    obtain ⟨hi, hpre⟩ := hi
    by_cases hlt : i < a.length
    · have hlb : i < b.length := by omega
      by_cases hk : keyT a[i] = keyT b[i]
      · have hok : ∀ j (h : j < a.length) (h2 : j < b.length), j < i + 1 → keyT a[j] = keyT b[j] := fun j h h2 hj => by
          by_cases hji : j = i
          · subst hji; exact hk
          · exact hpre j h h2 (by omega)
        obtain ⟨k1, k2, k3⟩ := keyT_iff.1 hk
        clear hpre
        (repeat' (first | (apply at_region 6; refine Stop.out ?_) | refine WP_seq ?_ | refine WP_region ?_ | refine WPL_nil ?_ | (apply WPL_t; (first | exact WT_move rfl | (apply g_bin; first | exact WT_lss rfl rfl) | (apply g_call; first | exact WT_len rfl rfl)); exact rfl) | refine WP_block ?_ | refine WP_skip ?_ | (refine WP_cond rfl (fun hb => ?_) (fun hb => ?_) <;> (repeat (first | replace hb := dec_t hb | replace hb := dec_f hb)) <;> (try (exfalso; first | omega)))))
        all_goals (try (exfalso; omega))
        refine ⟨?_⟩
        (refine WP_drawl 37 rfl ?_)
        all_goals ((apply WPY_pure 0 rfl (by decide +kernel) rfl (by repeat (first | exact np_ret)) guard_none; (first | exact WT_move rfl); exact rfl))
        all_goals ((apply WPY_pure 1 rfl (by decide +kernel) rfl (by repeat (first | exact np_ret)) guard_none; (first | exact WT_move rfl); exact rfl))
        all_goals ((apply WPY_pure 2 rfl (by decide +kernel) rfl (by repeat (first | exact np_ret)) guard_none; (first | (apply g_index; first | exact WT_index rfl rfl rfl)); exact rfl))
        all_goals ((apply WPY_pure 3 rfl (by decide +kernel) rfl (by repeat (first | exact np_ret)) guard_none; (first | (apply g_fld; first | exact WT_fieldf rfl rfl rfl)); exact rfl))
        all_goals ((apply WPY_take 4 rfl (by decide +kernel) rfl (by decide +kernel) (by repeat (first | exact np_ret)) guard_none; (first | (apply g_load; first | exact WT_loadf rfl rfl)); exact rfl))
        all_goals ((apply WPY_pure 5 rfl (by decide +kernel) rfl (by repeat (first | exact np_ret)) guard_none; (first | exact WT_move rfl); exact rfl))
        all_goals ((apply WPY_pure 6 rfl (by decide +kernel) rfl (by repeat (first | exact np_ret)) guard_none; (first | exact WT_move rfl); exact rfl))
        all_goals ((apply WPY_pure 7 rfl (by decide +kernel) rfl (by repeat (first | exact np_ret)) guard_none; (first | (apply g_index; first | exact WT_index rfl rfl rfl)); exact rfl))
        all_goals ((apply WPY_pure 8 rfl (by decide +kernel) rfl (by repeat (first | exact np_ret)) guard_none; (first | (apply g_fld; first | exact WT_fieldf rfl rfl rfl)); exact rfl))
        all_goals ((apply WPY_take 9 rfl (by decide +kernel) rfl (by decide +kernel) (by repeat (first | exact np_ret)) guard_none; (first | (apply g_load; first | exact WT_loadf rfl rfl)); exact rfl))
        all_goals ((apply WPY_pure 10 rfl (by decide +kernel) rfl (by repeat (first | exact np_ret)) guard_none; (first | (apply g_bin; first | exact WT_neq rfl rfl)); exact rfl))
        all_goals ((apply WPY_pure 11 rfl (by decide +kernel) rfl (by repeat (first | exact np_ret)) guard_none; (first | exact WT_move rfl); exact rfl))
        all_goals (first | (refine WPY_case 28 rfl (fun hb => ?_) (fun hb => ?_) <;> (repeat (first | replace hb := dec_t hb | replace hb := dec_f hb | replace hb := not_t hb | replace hb := not_f hb)) <;> (try (exfalso; first | (cases hb; done) | contradiction | omega))) | skip)
        all_goals (first | (apply WPY_pure 12 rfl (by decide +kernel) rfl (by repeat (first | exact np_ret)) (guard_some rfl rfl rfl); (first | exact WT_move rfl); exact rfl))
        all_goals (first | (apply WPY_pure 13 rfl (by decide +kernel) rfl (by repeat (first | exact np_ret)) (guard_some rfl rfl rfl); (first | exact WT_move rfl); exact rfl))
        all_goals (first | (apply WPY_pure 14 rfl (by decide +kernel) rfl (by repeat (first | exact np_ret)) (guard_some rfl rfl rfl); (first | (apply g_index; first | exact WT_index rfl rfl rfl)); exact rfl))
        all_goals (first | (apply WPY_pure 15 rfl (by decide +kernel) rfl (by repeat (first | exact np_ret)) (guard_some rfl rfl rfl); (first | (apply g_fld; first | exact WT_fieldf rfl rfl rfl)); exact rfl))
        all_goals (first | (apply WPY_take 16 rfl (by decide +kernel) rfl (by decide +kernel) (by repeat (first | exact np_ret)) (guard_some rfl rfl rfl); (first | (apply g_load; first | exact WT_loadf rfl rfl)); exact rfl))
        all_goals (first | (apply WPY_pure 17 rfl (by decide +kernel) rfl (by repeat (first | exact np_ret)) (guard_some rfl rfl rfl); (first | exact WT_move rfl); exact rfl))
        all_goals (first | (apply WPY_pure 18 rfl (by decide +kernel) rfl (by repeat (first | exact np_ret)) (guard_some rfl rfl rfl); (first | exact WT_move rfl); exact rfl))
        all_goals (first | (apply WPY_pure 19 rfl (by decide +kernel) rfl (by repeat (first | exact np_ret)) (guard_some rfl rfl rfl); (first | (apply g_index; first | exact WT_index rfl rfl rfl)); exact rfl))
        all_goals (first | (apply WPY_pure 20 rfl (by decide +kernel) rfl (by repeat (first | exact np_ret)) (guard_some rfl rfl rfl); (first | (apply g_fld; first | exact WT_fieldf rfl rfl rfl)); exact rfl))
        all_goals (first | (apply WPY_take 21 rfl (by decide +kernel) rfl (by decide +kernel) (by repeat (first | exact np_ret)) (guard_some rfl rfl rfl); (first | (apply g_load; first | exact WT_loadf rfl rfl)); exact rfl))
        all_goals (first | (apply WPY_pure 22 rfl (by decide +kernel) rfl (by repeat (first | exact np_ret)) (guard_some rfl rfl rfl); (first | (apply g_bin; first | exact WT_tne rfl rfl)); exact rfl))
        all_goals ((apply WPY_pure 23 rfl (by decide +kernel) rfl (by repeat (first | exact np_ret)) guard_none; (first | exact WT_pick (b := false) rfl (fun e => by cases e) (fun _ => rfl)); exact rfl))
        all_goals ((apply WPY_pure 24 rfl (by decide +kernel) rfl (by repeat (first | exact np_ret)) guard_none; (first | exact WT_move rfl); exact rfl))
        all_goals (first | (refine WPY_case 41 rfl (fun hb => ?_) (fun hb => ?_) <;> (repeat (first | replace hb := dec_t hb | replace hb := dec_f hb | replace hb := not_t hb | replace hb := not_f hb)) <;> (try (exfalso; first | (cases hb; done) | contradiction | omega))) | skip)
        all_goals (first | (apply WPY_pure 25 rfl (by decide +kernel) rfl (by repeat (first | exact np_ret)) (guard_some rfl rfl rfl); (first | exact WT_move rfl); exact rfl))
        all_goals (first | (apply WPY_pure 26 rfl (by decide +kernel) rfl (by repeat (first | exact np_ret)) (guard_some rfl rfl rfl); (first | exact WT_move rfl); exact rfl))
        all_goals (first | (apply WPY_pure 27 rfl (by decide +kernel) rfl (by repeat (first | exact np_ret)) (guard_some rfl rfl rfl); (first | (apply g_index; first | exact WT_index rfl rfl rfl)); exact rfl))
        all_goals (first | (apply WPY_pure 28 rfl (by decide +kernel) rfl (by repeat (first | exact np_ret)) (guard_some rfl rfl rfl); (first | (apply g_fld; first | exact WT_fieldf rfl rfl rfl)); exact rfl))
        all_goals (first | (apply WPY_take 29 rfl (by decide +kernel) rfl (by decide +kernel) (by repeat (first | exact np_ret)) (guard_some rfl rfl rfl); (first | (apply g_load; first | exact WT_loadf rfl rfl)); exact rfl))
        all_goals (first | (apply WPY_pure 30 rfl (by decide +kernel) rfl (by repeat (first | exact np_ret)) (guard_some rfl rfl rfl); (first | exact WT_move rfl); exact rfl))
        all_goals (first | (apply WPY_pure 31 rfl (by decide +kernel) rfl (by repeat (first | exact np_ret)) (guard_some rfl rfl rfl); (first | exact WT_move rfl); exact rfl))
        all_goals (first | (apply WPY_pure 32 rfl (by decide +kernel) rfl (by repeat (first | exact np_ret)) (guard_some rfl rfl rfl); (first | (apply g_index; first | exact WT_index rfl rfl rfl)); exact rfl))
        all_goals (first | (apply WPY_pure 33 rfl (by decide +kernel) rfl (by repeat (first | exact np_ret)) (guard_some rfl rfl rfl); (first | (apply g_fld; first | exact WT_fieldf rfl rfl rfl)); exact rfl))
        all_goals (first | (apply WPY_take 34 rfl (by decide +kernel) rfl (by decide +kernel) (by repeat (first | exact np_ret)) (guard_some rfl rfl rfl); (first | (apply g_load; first | exact WT_loadf rfl rfl)); exact rfl))
        all_goals (first | (apply WPY_pure 35 rfl (by decide +kernel) rfl (by repeat (first | exact np_ret)) (guard_some rfl rfl rfl); (first | (apply g_bin; first | exact WT_neq rfl rfl)); exact rfl))
        all_goals ((apply WPY_pure 36 rfl (by decide +kernel) rfl (by repeat (first | exact np_ret)) guard_none; (first | exact WT_pick (b := false) rfl (fun e => by cases e) (fun _ => rfl)); exact rfl))
        all_goals (refine WPY_done (by decide +kernel) ?_)
        all_goals ((repeat' (first | refine WP_region ?_ | refine WPL_nil ?_ | (apply WPL_t; (first | exact WT_move rfl | exact WT_assign rfl | (apply g_bin; first | exact WT_add rfl rfl)); exact rfl) | refine WP_skip ?_ | (refine WP_cond rfl (fun hb => ?_) (fun hb => ?_) <;> (repeat (first | replace hb := dec_t hb | replace hb := dec_f hb | replace hb := not_t hb | replace hb := not_f hb)) <;> (try (exfalso; first | contradiction))))))
        all_goals (try (exfalso; first | contradiction | omega))
        all_goals exact ⟨i + 1, ⟨by omega, hok⟩, by omega, Leads_env (by repeat (first | exact sub_nil | refine sub_cons rfl ?_)) (List.Sublist.refl _)⟩
      · rw [sameL_no i hlt hlb hk]
        have hk2 : ¬ (a[i].kind = b[i].kind ∧ a[i].text = b[i].text ∧ a[i].n = b[i].n) := fun e => hk (keyT_iff.2 e)
        clear hpre
        (repeat' (first | (apply at_region 6; refine Stop.out ?_) | refine WP_seq ?_ | refine WP_region ?_ | refine WPL_nil ?_ | (apply WPL_t; (first | exact WT_move rfl | (apply g_bin; first | exact WT_lss rfl rfl) | (apply g_call; first | exact WT_len rfl rfl)); exact rfl) | refine WP_block ?_ | refine WP_skip ?_ | (refine WP_cond rfl (fun hb => ?_) (fun hb => ?_) <;> (repeat (first | replace hb := dec_t hb | replace hb := dec_f hb)) <;> (try (exfalso; first | omega)))))
        all_goals (try (exfalso; omega))
        refine ⟨?_⟩
        (refine WP_drawl 37 rfl ?_)
        all_goals ((apply WPY_pure 0 rfl (by decide +kernel) rfl (by repeat (first | exact np_ret)) guard_none; (first | exact WT_move rfl); exact rfl))
        all_goals ((apply WPY_pure 1 rfl (by decide +kernel) rfl (by repeat (first | exact np_ret)) guard_none; (first | exact WT_move rfl); exact rfl))
        all_goals ((apply WPY_pure 2 rfl (by decide +kernel) rfl (by repeat (first | exact np_ret)) guard_none; (first | (apply g_index; first | exact WT_index rfl rfl rfl)); exact rfl))
        all_goals ((apply WPY_pure 3 rfl (by decide +kernel) rfl (by repeat (first | exact np_ret)) guard_none; (first | (apply g_fld; first | exact WT_fieldf rfl rfl rfl)); exact rfl))
        all_goals ((apply WPY_take 4 rfl (by decide +kernel) rfl (by decide +kernel) (by repeat (first | exact np_ret)) guard_none; (first | (apply g_load; first | exact WT_loadf rfl rfl)); exact rfl))
        all_goals ((apply WPY_pure 5 rfl (by decide +kernel) rfl (by repeat (first | exact np_ret)) guard_none; (first | exact WT_move rfl); exact rfl))
        all_goals ((apply WPY_pure 6 rfl (by decide +kernel) rfl (by repeat (first | exact np_ret)) guard_none; (first | exact WT_move rfl); exact rfl))
        all_goals ((apply WPY_pure 7 rfl (by decide +kernel) rfl (by repeat (first | exact np_ret)) guard_none; (first | (apply g_index; first | exact WT_index rfl rfl rfl)); exact rfl))
        all_goals ((apply WPY_pure 8 rfl (by decide +kernel) rfl (by repeat (first | exact np_ret)) guard_none; (first | (apply g_fld; first | exact WT_fieldf rfl rfl rfl)); exact rfl))
        all_goals ((apply WPY_take 9 rfl (by decide +kernel) rfl (by decide +kernel) (by repeat (first | exact np_ret)) guard_none; (first | (apply g_load; first | exact WT_loadf rfl rfl)); exact rfl))
        all_goals ((apply WPY_pure 10 rfl (by decide +kernel) rfl (by repeat (first | exact np_ret)) guard_none; (first | (apply g_bin; first | exact WT_neq rfl rfl)); exact rfl))
        all_goals ((apply WPY_pure 11 rfl (by decide +kernel) rfl (by repeat (first | exact np_ret)) guard_none; (first | exact WT_move rfl); exact rfl))
        all_goals (first | (refine WPY_case 28 rfl (fun hb => ?_) (fun hb => ?_) <;> (repeat (first | replace hb := dec_t hb | replace hb := dec_f hb | replace hb := not_t hb | replace hb := not_f hb)) <;> (try (exfalso; first | (cases hb; done) | contradiction | omega))) | skip)
        all_goals (first | (refine WPY_off 12 rfl (by decide +kernel) rfl (by repeat (first | exact np_ret)) rfl rfl rfl rfl rfl ?_) | (apply WPY_pure 12 rfl (by decide +kernel) rfl (by repeat (first | exact np_ret)) (guard_some rfl rfl rfl); (first | exact WT_move rfl); exact rfl))
        all_goals (first | (refine WPY_off 13 rfl (by decide +kernel) rfl (by repeat (first | exact np_ret)) rfl rfl rfl rfl rfl ?_) | (apply WPY_pure 13 rfl (by decide +kernel) rfl (by repeat (first | exact np_ret)) (guard_some rfl rfl rfl); (first | exact WT_move rfl); exact rfl))
        all_goals (first | (refine WPY_off 14 rfl (by decide +kernel) rfl (by repeat (first | exact np_ret)) rfl rfl rfl rfl rfl ?_) | (apply WPY_pure 14 rfl (by decide +kernel) rfl (by repeat (first | exact np_ret)) (guard_some rfl rfl rfl); (first | (apply g_index; first | exact WT_index rfl rfl rfl)); exact rfl))
        all_goals (first | (refine WPY_off 15 rfl (by decide +kernel) rfl (by repeat (first | exact np_ret)) rfl rfl rfl rfl rfl ?_) | (apply WPY_pure 15 rfl (by decide +kernel) rfl (by repeat (first | exact np_ret)) (guard_some rfl rfl rfl); (first | (apply g_fld; first | exact WT_fieldf rfl rfl rfl)); exact rfl))
        all_goals (first | (refine WPY_off 16 rfl (by decide +kernel) rfl (by repeat (first | exact np_ret)) rfl rfl rfl rfl rfl ?_) | (apply WPY_take 16 rfl (by decide +kernel) rfl (by decide +kernel) (by repeat (first | exact np_ret)) (guard_some rfl rfl rfl); (first | (apply g_load; first | exact WT_loadf rfl rfl)); exact rfl))
        all_goals (first | (refine WPY_off 17 rfl (by decide +kernel) rfl (by repeat (first | exact np_ret)) rfl rfl rfl rfl rfl ?_) | (apply WPY_pure 17 rfl (by decide +kernel) rfl (by repeat (first | exact np_ret)) (guard_some rfl rfl rfl); (first | exact WT_move rfl); exact rfl))
        all_goals (first | (refine WPY_off 18 rfl (by decide +kernel) rfl (by repeat (first | exact np_ret)) rfl rfl rfl rfl rfl ?_) | (apply WPY_pure 18 rfl (by decide +kernel) rfl (by repeat (first | exact np_ret)) (guard_some rfl rfl rfl); (first | exact WT_move rfl); exact rfl))
        all_goals (first | (refine WPY_off 19 rfl (by decide +kernel) rfl (by repeat (first | exact np_ret)) rfl rfl rfl rfl rfl ?_) | (apply WPY_pure 19 rfl (by decide +kernel) rfl (by repeat (first | exact np_ret)) (guard_some rfl rfl rfl); (first | (apply g_index; first | exact WT_index rfl rfl rfl)); exact rfl))
        all_goals (first | (refine WPY_off 20 rfl (by decide +kernel) rfl (by repeat (first | exact np_ret)) rfl rfl rfl rfl rfl ?_) | (apply WPY_pure 20 rfl (by decide +kernel) rfl (by repeat (first | exact np_ret)) (guard_some rfl rfl rfl); (first | (apply g_fld; first | exact WT_fieldf rfl rfl rfl)); exact rfl))
        all_goals (first | (refine WPY_off 21 rfl (by decide +kernel) rfl (by repeat (first | exact np_ret)) rfl rfl rfl rfl rfl ?_) | (apply WPY_take 21 rfl (by decide +kernel) rfl (by decide +kernel) (by repeat (first | exact np_ret)) (guard_some rfl rfl rfl); (first | (apply g_load; first | exact WT_loadf rfl rfl)); exact rfl))
        all_goals (first | (refine WPY_off 22 rfl (by decide +kernel) rfl (by repeat (first | exact np_ret)) rfl rfl rfl rfl rfl ?_) | (apply WPY_pure 22 rfl (by decide +kernel) rfl (by repeat (first | exact np_ret)) (guard_some rfl rfl rfl); (first | (apply g_bin; first | exact WT_tne rfl rfl)); exact rfl))
        all_goals ((apply WPY_pure 23 rfl (by decide +kernel) rfl (by repeat (first | exact np_ret)) guard_none; (first | exact WT_pick (b := true) rfl (fun _ => rfl) (fun e => by cases e) | exact WT_pick (b := false) rfl (fun e => by cases e) (fun _ => rfl)); exact rfl))
        all_goals ((apply WPY_pure 24 rfl (by decide +kernel) rfl (by repeat (first | exact np_ret)) guard_none; (first | exact WT_move rfl); exact rfl))
        all_goals (first | (refine WPY_case 41 rfl (fun hb => ?_) (fun hb => ?_) <;> (repeat (first | replace hb := dec_t hb | replace hb := dec_f hb | replace hb := not_t hb | replace hb := not_f hb)) <;> (try (exfalso; first | (cases hb; done) | contradiction | omega))) | skip)
        all_goals (first | (refine WPY_off 25 rfl (by decide +kernel) rfl (by repeat (first | exact np_ret)) rfl rfl rfl rfl rfl ?_) | (apply WPY_pure 25 rfl (by decide +kernel) rfl (by repeat (first | exact np_ret)) (guard_some rfl rfl rfl); (first | exact WT_move rfl); exact rfl))
        all_goals (first | (refine WPY_off 26 rfl (by decide +kernel) rfl (by repeat (first | exact np_ret)) rfl rfl rfl rfl rfl ?_) | (apply WPY_pure 26 rfl (by decide +kernel) rfl (by repeat (first | exact np_ret)) (guard_some rfl rfl rfl); (first | exact WT_move rfl); exact rfl))
        all_goals (first | (refine WPY_off 27 rfl (by decide +kernel) rfl (by repeat (first | exact np_ret)) rfl rfl rfl rfl rfl ?_) | (apply WPY_pure 27 rfl (by decide +kernel) rfl (by repeat (first | exact np_ret)) (guard_some rfl rfl rfl); (first | (apply g_index; first | exact WT_index rfl rfl rfl)); exact rfl))
        all_goals (first | (refine WPY_off 28 rfl (by decide +kernel) rfl (by repeat (first | exact np_ret)) rfl rfl rfl rfl rfl ?_) | (apply WPY_pure 28 rfl (by decide +kernel) rfl (by repeat (first | exact np_ret)) (guard_some rfl rfl rfl); (first | (apply g_fld; first | exact WT_fieldf rfl rfl rfl)); exact rfl))
        all_goals (first | (refine WPY_off 29 rfl (by decide +kernel) rfl (by repeat (first | exact np_ret)) rfl rfl rfl rfl rfl ?_) | (apply WPY_take 29 rfl (by decide +kernel) rfl (by decide +kernel) (by repeat (first | exact np_ret)) (guard_some rfl rfl rfl); (first | (apply g_load; first | exact WT_loadf rfl rfl)); exact rfl))
        all_goals (first | (refine WPY_off 30 rfl (by decide +kernel) rfl (by repeat (first | exact np_ret)) rfl rfl rfl rfl rfl ?_) | (apply WPY_pure 30 rfl (by decide +kernel) rfl (by repeat (first | exact np_ret)) (guard_some rfl rfl rfl); (first | exact WT_move rfl); exact rfl))
        all_goals (first | (refine WPY_off 31 rfl (by decide +kernel) rfl (by repeat (first | exact np_ret)) rfl rfl rfl rfl rfl ?_) | (apply WPY_pure 31 rfl (by decide +kernel) rfl (by repeat (first | exact np_ret)) (guard_some rfl rfl rfl); (first | exact WT_move rfl); exact rfl))
        all_goals (first | (refine WPY_off 32 rfl (by decide +kernel) rfl (by repeat (first | exact np_ret)) rfl rfl rfl rfl rfl ?_) | (apply WPY_pure 32 rfl (by decide +kernel) rfl (by repeat (first | exact np_ret)) (guard_some rfl rfl rfl); (first | (apply g_index; first | exact WT_index rfl rfl rfl)); exact rfl))
        all_goals (first | (refine WPY_off 33 rfl (by decide +kernel) rfl (by repeat (first | exact np_ret)) rfl rfl rfl rfl rfl ?_) | (apply WPY_pure 33 rfl (by decide +kernel) rfl (by repeat (first | exact np_ret)) (guard_some rfl rfl rfl); (first | (apply g_fld; first | exact WT_fieldf rfl rfl rfl)); exact rfl))
        all_goals (first | (refine WPY_off 34 rfl (by decide +kernel) rfl (by repeat (first | exact np_ret)) rfl rfl rfl rfl rfl ?_) | (apply WPY_take 34 rfl (by decide +kernel) rfl (by decide +kernel) (by repeat (first | exact np_ret)) (guard_some rfl rfl rfl); (first | (apply g_load; first | exact WT_loadf rfl rfl)); exact rfl))
        all_goals (first | (refine WPY_off 35 rfl (by decide +kernel) rfl (by repeat (first | exact np_ret)) rfl rfl rfl rfl rfl ?_) | (apply WPY_pure 35 rfl (by decide +kernel) rfl (by repeat (first | exact np_ret)) (guard_some rfl rfl rfl); (first | (apply g_bin; first | exact WT_neq rfl rfl)); exact rfl))
        all_goals ((apply WPY_pure 36 rfl (by decide +kernel) rfl (by repeat (first | exact np_ret)) guard_none; (first | exact WT_pick (b := true) rfl (fun _ => rfl) (fun e => by cases e) | exact WT_pick (b := false) rfl (fun e => by cases e) (fun _ => rfl)); exact rfl))
        all_goals (refine WPY_done (by decide +kernel) ?_)
        all_goals ((repeat' (first | refine WP_seq ?_ | refine WP_region ?_ | refine WPL_nil ?_ | (apply WPL_t; (first | exact WT_move rfl | exact WT_assign rfl | (apply g_bin; first | exact WT_add rfl rfl)); exact rfl) | refine WP_skip ?_ | refine WP_ret ?_ | refine WP_cond_t rfl ?_ | (refine WP_cond rfl (fun hb => ?_) (fun hb => ?_) <;> (repeat (first | replace hb := dec_t hb | replace hb := dec_f hb | replace hb := not_t hb | replace hb := not_f hb)) <;> (try (exfalso; first | fail))))))
        all_goals (try (exfalso; first | contradiction | omega | (apply hk2; refine ⟨?_, ?_, ?_⟩ <;> first | assumption | omega)))
        all_goals exact ⟨.inr rfl, ret1 rfl (.tmp rfl) (List.nil_sublist _) ⟨rfl, rfl⟩⟩
    · rw [sameL_iff.2 ⟨hl, fun j h h2 => hpre j h h2 (by omega)⟩]
      clear hpre
      (repeat' (first | refine WP_seq ?_ | refine WP_region ?_ | refine WPL_nil ?_ | (apply WPL_t; (first | exact WT_move rfl | exact WT_assign rfl | (apply g_bin; first | exact WT_lss rfl rfl) | (apply g_call; first | exact WT_len rfl rfl)); exact rfl) | refine WP_ret ?_ | refine WP_exit ?_ | (refine WP_cond rfl (fun hb => ?_) (fun hb => ?_) <;> (repeat (first | replace hb := dec_t hb | replace hb := dec_f hb)) <;> (try (exfalso; first | omega)))))
      all_goals (try (exfalso; omega))
      exact ⟨.inr rfl, ret1 rfl (.tmp rfl) (List.nil_sublist _) ⟨rfl, rfl⟩⟩
  · rw [sameL_len hl]
    (repeat' (first | refine WP_seq ?_ | refine WP_region ?_ | refine WPL_nil ?_ | (apply WPL_t; (first | exact WT_move rfl | exact WT_assign rfl | (apply g_bin; first | exact WT_neq rfl rfl) | (apply g_call; first | exact WT_len rfl rfl)); exact rfl) | refine WP_ret ?_ | (refine WP_cond rfl (fun hb => ?_) (fun hb => ?_) <;> (repeat (first | replace hb := dec_t hb | replace hb := dec_f hb | replace hb := not_t hb | replace hb := not_f hb)) <;> (try (exfalso; first | omega)))))
    all_goals (try (exfalso; omega))
    all_goals exact ⟨.inr rfl, ret1 rfl (.tmp rfl) (List.nil_sublist _) ⟨rfl, rfl⟩⟩
set_option maxHeartbeats 1000000 in
set_option maxRecDepth 100000 in
theorem r3equal_any (a b : List TokD) : FnC Tryd.prog 13 [isl eTok a, isl eTok b] [] (fun p loc => p = exB (decide (a = b)) ∧ loc = []) := by
  have hsm := r3same_any a b
  refine FnC_says (i := 0) rfl Says_isl fun ha => ?_
  obtain ⟨ha, -⟩ := ha
  simp only [maxLen] at ha
  refine FnC_enter Tryd.func13 rfl Tryd.ntmps13 rfl fun w0 F0 out => ?_
  cases hS : sameL a b
  · rw [hS] at hsm
    rw [decide_eq_false (fun e => by rw [e, sameL_refl] at hS; cases hS)]
    (repeat' (first | refine WP_seq ?_ | refine WP_region ?_ | refine WPL_nil ?_ | (apply WPL_t; (first | exact WT_move rfl | exact WT_assign rfl | (apply g_un; first | exact WT_not rfl)); exact rfl) | refine WP_ret ?_ | refine WP_cond_t rfl ?_ | (apply WPL_op0; exact rfl; first | (apply g_callf; first | (refine WO_call Tryd.func18 rfl hsm rfl ?_; rintro _ _ ⟨rfl, rfl⟩)))))
    all_goals (try (exfalso; first | contradiction | omega))
    all_goals exact ⟨.inr rfl, ret1 rfl (.tmp rfl) (List.nil_sublist _) ⟨rfl, rfl⟩⟩
  · rw [hS] at hsm
    obtain ⟨hl, hkey⟩ := sameL_iff.1 hS
    (repeat' (first | refine WP_seq ?_ | refine WP_region ?_ | refine WPL_nil ?_ | (apply WPL_t; (first | exact WT_move rfl | exact WT_assign rfl | (apply g_un; first | exact WT_not rfl)); exact rfl) | refine WP_block ?_ | refine WP_skip ?_ | refine WP_cond_f rfl ?_ | (apply WPL_op0; exact rfl; first | (apply g_callf; first | (refine WO_call Tryd.func18 rfl hsm rfl ?_; rintro _ _ ⟨rfl, rfl⟩)))))
    all_goals (try (exfalso; first | contradiction | omega))
    refine WP_loop (fun i : Nat => ([(0, isl eTok a), (1, isl eTok b), (5, exI .i64 (i : Int))], [])) (fun i => i ≤ a.length ∧ ∀ j (h : j < a.length) (h2 : j < b.length), j < i → a[j].at_ = b[j].at_) (fun i => a.length - i) 0 ?_ ⟨Nat.zero_le _, fun j _ _ h => by omega⟩ fun i hi => ?_
    · exact Leads_env (by repeat (first | exact sub_nil | refine sub_cons rfl ?_)) (List.Sublist.refl _)
    obtain ⟨hi, hpre⟩ := hi
    by_cases hlt : i < a.length
    · have hlb : i < b.length := by omega
      by_cases hk : a[i].at_ = b[i].at_
      · have hok : ∀ j (h : j < a.length) (h2 : j < b.length), j < i + 1 → a[j].at_ = b[j].at_ := fun j h h2 hj => by
          by_cases hji : j = i
          · subst hji; exact hk
          · exact hpre j h h2 (by omega)
        clear hpre
        (repeat' (first | (apply at_region 6; refine Stop.out ?_) | refine WP_seq ?_ | refine WP_region ?_ | refine WPL_nil ?_ | (apply WPL_t; (first | exact WT_move rfl | (apply g_bin; first | exact WT_lss rfl rfl) | (apply g_call; first | exact WT_len rfl rfl)); exact rfl) | refine WP_block ?_ | refine WP_skip ?_ | (refine WP_cond rfl (fun hb => ?_) (fun hb => ?_) <;> (repeat (first | replace hb := dec_t hb | replace hb := dec_f hb)) <;> (try (exfalso; first | omega)))))
        all_goals (try (exfalso; omega))
        refine ⟨?_⟩
        (refine WP_drawl 11 rfl ?_)
        all_goals ((apply WPY_pure 0 rfl (by decide +kernel) rfl (by repeat (first | exact np_ret)) guard_none; (first | exact WT_move rfl); exact rfl))
        all_goals ((apply WPY_pure 1 rfl (by decide +kernel) rfl (by repeat (first | exact np_ret)) guard_none; (first | exact WT_move rfl); exact rfl))
        all_goals ((apply WPY_pure 2 rfl (by decide +kernel) rfl (by repeat (first | exact np_ret)) guard_none; (first | (apply g_index; first | exact WT_index rfl rfl rfl)); exact rfl))
        all_goals ((apply WPY_pure 3 rfl (by decide +kernel) rfl (by repeat (first | exact np_ret)) guard_none; (first | (apply g_fld; first | exact WT_fieldf rfl rfl rfl)); exact rfl))
        all_goals ((apply WPY_take 4 rfl (by decide +kernel) rfl (by decide +kernel) (by repeat (first | exact np_ret)) guard_none; (first | (apply g_load; first | exact WT_loadf rfl rfl)); exact rfl))
        all_goals ((apply WPY_pure 5 rfl (by decide +kernel) rfl (by repeat (first | exact np_ret)) guard_none; (first | exact WT_move rfl); exact rfl))
        all_goals ((apply WPY_pure 6 rfl (by decide +kernel) rfl (by repeat (first | exact np_ret)) guard_none; (first | exact WT_move rfl); exact rfl))
        all_goals ((apply WPY_pure 7 rfl (by decide +kernel) rfl (by repeat (first | exact np_ret)) guard_none; (first | (apply g_index; first | exact WT_index rfl rfl rfl)); exact rfl))
        all_goals ((apply WPY_pure 8 rfl (by decide +kernel) rfl (by repeat (first | exact np_ret)) guard_none; (first | (apply g_fld; first | exact WT_fieldf rfl rfl rfl)); exact rfl))
        all_goals ((apply WPY_take 9 rfl (by decide +kernel) rfl (by decide +kernel) (by repeat (first | exact np_ret)) guard_none; (first | (apply g_load; first | exact WT_loadf rfl rfl)); exact rfl))
        all_goals ((apply WPY_pure 10 rfl (by decide +kernel) rfl (by repeat (first | exact np_ret)) guard_none; (first | (apply g_bin; first | exact WT_neq rfl rfl)); exact rfl))
        all_goals (refine WPY_done (by decide +kernel) ?_)
        all_goals ((repeat' (first | refine WP_region ?_ | refine WPL_nil ?_ | (apply WPL_t; (first | exact WT_move rfl | exact WT_assign rfl | (apply g_bin; first | exact WT_add rfl rfl)); exact rfl) | refine WP_skip ?_ | (refine WP_cond rfl (fun hb => ?_) (fun hb => ?_) <;> (repeat (first | replace hb := dec_t hb | replace hb := dec_f hb | replace hb := not_t hb | replace hb := not_f hb)) <;> (try (exfalso; first | contradiction))))))
        all_goals (try (exfalso; first | contradiction | omega))
        all_goals exact ⟨i + 1, ⟨by omega, hok⟩, by omega, Leads_env (by repeat (first | exact sub_nil | refine sub_cons rfl ?_)) (List.Sublist.refl _)⟩
      · rw [decide_eq_false (fun e => by subst e; exact hk rfl)]
        clear hpre
        (repeat' (first | (apply at_region 6; refine Stop.out ?_) | refine WP_seq ?_ | refine WP_region ?_ | refine WPL_nil ?_ | (apply WPL_t; (first | exact WT_move rfl | (apply g_bin; first | exact WT_lss rfl rfl) | (apply g_call; first | exact WT_len rfl rfl)); exact rfl) | refine WP_block ?_ | refine WP_skip ?_ | (refine WP_cond rfl (fun hb => ?_) (fun hb => ?_) <;> (repeat (first | replace hb := dec_t hb | replace hb := dec_f hb)) <;> (try (exfalso; first | omega)))))
        all_goals (try (exfalso; omega))
        refine ⟨?_⟩
        (refine WP_drawl 11 rfl ?_)
        all_goals ((apply WPY_pure 0 rfl (by decide +kernel) rfl (by repeat (first | exact np_ret)) guard_none; (first | exact WT_move rfl); exact rfl))
        all_goals ((apply WPY_pure 1 rfl (by decide +kernel) rfl (by repeat (first | exact np_ret)) guard_none; (first | exact WT_move rfl); exact rfl))
        all_goals ((apply WPY_pure 2 rfl (by decide +kernel) rfl (by repeat (first | exact np_ret)) guard_none; (first | (apply g_index; first | exact WT_index rfl rfl rfl)); exact rfl))
        all_goals ((apply WPY_pure 3 rfl (by decide +kernel) rfl (by repeat (first | exact np_ret)) guard_none; (first | (apply g_fld; first | exact WT_fieldf rfl rfl rfl)); exact rfl))
        all_goals ((apply WPY_take 4 rfl (by decide +kernel) rfl (by decide +kernel) (by repeat (first | exact np_ret)) guard_none; (first | (apply g_load; first | exact WT_loadf rfl rfl)); exact rfl))
        all_goals ((apply WPY_pure 5 rfl (by decide +kernel) rfl (by repeat (first | exact np_ret)) guard_none; (first | exact WT_move rfl); exact rfl))
        all_goals ((apply WPY_pure 6 rfl (by decide +kernel) rfl (by repeat (first | exact np_ret)) guard_none; (first | exact WT_move rfl); exact rfl))
        all_goals ((apply WPY_pure 7 rfl (by decide +kernel) rfl (by repeat (first | exact np_ret)) guard_none; (first | (apply g_index; first | exact WT_index rfl rfl rfl)); exact rfl))
        all_goals ((apply WPY_pure 8 rfl (by decide +kernel) rfl (by repeat (first | exact np_ret)) guard_none; (first | (apply g_fld; first | exact WT_fieldf rfl rfl rfl)); exact rfl))
        all_goals ((apply WPY_take 9 rfl (by decide +kernel) rfl (by decide +kernel) (by repeat (first | exact np_ret)) guard_none; (first | (apply g_load; first | exact WT_loadf rfl rfl)); exact rfl))
        all_goals ((apply WPY_pure 10 rfl (by decide +kernel) rfl (by repeat (first | exact np_ret)) guard_none; (first | (apply g_bin; first | exact WT_neq rfl rfl)); exact rfl))
        all_goals (refine WPY_done (by decide +kernel) ?_)
        all_goals ((repeat' (first | refine WP_seq ?_ | refine WP_region ?_ | refine WPL_nil ?_ | (apply WPL_t; (first | exact WT_assign rfl); exact rfl) | refine WP_ret ?_ | (refine WP_cond rfl (fun hb => ?_) (fun hb => ?_) <;> (repeat (first | replace hb := dec_t hb | replace hb := dec_f hb | replace hb := not_t hb | replace hb := not_f hb)) <;> (try (exfalso; first | contradiction))))))
        all_goals (try (exfalso; first | contradiction | omega))
        all_goals exact ⟨.inr rfl, ret1 rfl (.tmp rfl) (List.nil_sublist _) ⟨rfl, rfl⟩⟩
    · have heq : a = b := List.ext_getElem hl fun j h h2 => by
        obtain ⟨k1, k2, k3⟩ := keyT_iff.1 (hkey j h h2)
        have k4 := hpre j h h2 (by omega)
        have e1 : a[j] = ⟨a[j].kind, a[j].text, a[j].n, a[j].at_⟩ := rfl
        rw [e1, k1, k2, k3, k4]
      rw [decide_eq_true heq]
      clear hpre
      (repeat' (first | refine WP_seq ?_ | refine WP_region ?_ | refine WPL_nil ?_ | (apply WPL_t; (first | exact WT_move rfl | exact WT_assign rfl | (apply g_bin; first | exact WT_lss rfl rfl) | (apply g_call; first | exact WT_len rfl rfl)); exact rfl) | refine WP_ret ?_ | refine WP_exit ?_ | (refine WP_cond rfl (fun hb => ?_) (fun hb => ?_) <;> (repeat (first | replace hb := dec_t hb | replace hb := dec_f hb)) <;> (try (exfalso; first | omega)))))
      all_goals (try (exfalso; omega))
      exact ⟨.inr rfl, ret1 rfl (.tmp rfl) (List.nil_sublist _) ⟨rfl, rfl⟩⟩
end Go.Proofs.YtdpabdbeecbnmaaDoor

/- Chapter 03: Same of the program, Few and Decimal of the specification. -/
-- STRINGS
-- ROWS
-- PRUNEC
-- IFACE
-- CATT
namespace Go.Lx
theorem decF_len : ∀ (k n : Nat), n < 10 ^ (k + 1) → (decF n).length ≤ k + 1
  | 0, n, h => by rw [decF_small (by simpa using h)]; exact Nat.le_refl _
  | k + 1, n, h => by
    by_cases h1 : n < 10
    · rw [decF_small h1]; exact Nat.succ_le_succ (Nat.zero_le _)
    · rw [decF_big h1, List.length_append]
      have := decF_len k (n / 10) (by rw [Nat.pow_succ] at h; omega)
      simp only [List.length_cons, List.length_nil]; omega
theorem word_len {t : TokD} (h : validB t = true) : (word t).length ≤ 32 := by
  unfold validB at h
  unfold word
  by_cases h1 : t.kind = 1
  · rw [if_pos h1] at h
    rw [if_neg (by omega)]
    unfold nameB at h
    simp only [Bool.and_eq_true, decide_eq_true_eq] at h
    exact h.1.1.2
  rw [if_neg h1] at h
  by_cases h2 : t.kind = 2
  · rw [if_pos h2] at h
    rw [if_pos h2]
    simp only [Bool.and_eq_true, decide_eq_true_eq] at h
    exact Nat.le_trans (decF_len 12 _ (by have := h.2; show _ < 10000000000000; omega)) (by decide)
  rw [if_neg h2] at h
  rw [if_neg h2]
  by_cases h3 : t.kind = 3
  · rw [if_pos h3] at h
    simp only [Bool.and_eq_true, decide_eq_true_eq] at h
    omega
  · rw [if_neg h3] at h; cases h
theorem joinF_len : ∀ (l : List (List UInt8)), (∀ w ∈ l, w.length ≤ 32) → (joinF l).length ≤ 33 * l.length
  | [], _ => Nat.zero_le _
  | [w], h => by have := h w (by simp); show w.length ≤ 33; omega
  | w :: v :: l, h => by
    rw [joinF_cons]
    have h1 := h w (by simp)
    have h2 := joinF_len (v :: l) fun x hx => h x (List.mem_cons_of_mem _ hx)
    simp only [List.length_append, List.length_cons] at h2 ⊢
    omega
theorem joinF_snoc (w : List UInt8) : ∀ (l : List (List UInt8)), l ≠ [] → joinF (l ++ [w]) = joinF l ++ 32 :: w
  | [], h => absurd rfl h
  | [v], _ => rfl
  | v :: u :: l, _ => by
    show v ++ 32 :: joinF ((u :: l) ++ [w]) = _
    rw [joinF_snoc w (u :: l) (by simp), joinF_cons]
    simp
theorem words_len {l : List TokD} (h : ∀ t ∈ l, validB t = true) : (joinF (l.map word)).length ≤ 33 * l.length := by
  have := joinF_len (l.map word) fun w hw => by
    obtain ⟨t, ht, rfl⟩ := List.mem_map.1 hw
    exact word_len (h t ht)
  rwa [List.length_map] at this
end Go.Lx
namespace Go.Proofs.YtdpabdbeecbnmaaDoor
open Go Go.RowKit Go.Kx Go.Fr Go.Lx
set_option maxRecDepth 100000 in
theorem same1_any (a b : TokD) : FnC Tryd.prog 41 [agg (tokV a), agg (tokV b)] [] (fun p loc => p = exB (decide (keyT a = keyT b)) ∧ loc = []) := by
  have hk : decide (keyT a = keyT b) = (decide (a.kind = b.kind) && (decide (a.text = b.text) && decide (a.n = b.n))) := by
    rw [Bool.eq_iff_iff]; simp [keyT_iff]
  rw [hk]
  unfold tokV
  refine FnC_enter Tryd.func41 rfl Tryd.ntmps41 rfl fun w0 F0 out => ?_
  (repeat' (first | refine WP_seq ?_ | refine WP_region ?_ | refine WPL_nil ?_ | (apply WPL_t; (first | exact WT_move rfl | exact WT_assign rfl | exact WT_pick (b := true) rfl (fun _ => rfl) (fun e => by cases e) | exact WT_pick (b := false) rfl (fun e => by cases e) (fun _ => rfl) | (apply g_load; first | exact WT_load (k := 0) rfl rfl rfl rfl | exact WT_load (k := 1) rfl rfl rfl rfl) | (apply g_fld; first | exact WT_field rfl rfl rfl) | (apply g_bin; first | exact WT_eql rfl rfl)); exact rfl) | (refine WPL_off rfl rfl rfl rfl rfl ?_) | (apply WPL_gt; exact rfl; exact rfl; exact rfl; (first | (apply g_load; first | exact WT_load (k := 0) rfl rfl rfl rfl | exact WT_load (k := 1) rfl rfl rfl rfl) | (apply g_fld; first | exact WT_field rfl rfl rfl) | (apply g_bin; first | exact WT_teq rfl rfl | exact WT_eql rfl rfl)); exact rfl) | refine WP_ret ?_ | (apply WPL_op0; exact rfl; first | (apply g_box; refine WO_box rfl ?_; intro _)) | (refine WPL_case rfl rfl (fun hb => ?_) (fun hb => ?_) <;> (repeat (first | replace hb := dec_t hb | replace hb := dec_f hb)) <;> (try (exfalso; first | fail)))))
  all_goals (refine ⟨.inr rfl, ret1 rfl (.tmp rfl) (List.nil_sublist _) ⟨congrArg exB ?_, rfl⟩⟩)
  all_goals (simp_all)
set_option maxHeartbeats 1000000 in
set_option maxRecDepth 100000 in
theorem eqfTok_any (a b : List TokD) : FnC Tryd.prog 40 [isl eTok a, isl eTok b, ex (.func (.func 41) #[] #[])] [] (fun p loc => p = exB (sameL a b) ∧ loc = []) := by
  refine FnC_says (i := 0) rfl Says_isl fun ha => ?_
  refine FnC_says (i := 1) rfl Says_isl fun hb => ?_
  obtain ⟨ha, -⟩ := ha
  obtain ⟨hb, -⟩ := hb
  simp only [maxLen] at ha hb
  refine FnC_enter Tryd.func40 rfl Tryd.ntmps40 rfl fun w0 F0 out => ?_
  by_cases hl : a.length = b.length
  · (repeat' (first | refine WP_seq ?_ | refine WP_region ?_ | refine WPL_nil ?_ | (apply WPL_t; (first | exact WT_move rfl | exact WT_assign rfl | (apply g_bin; first | exact WT_neq rfl rfl) | (apply g_call; first | exact WT_len rfl rfl)); exact rfl) | refine WP_block ?_ | refine WP_skip ?_ | (refine WP_cond rfl (fun hb => ?_) (fun hb => ?_) <;> (repeat (first | replace hb := dec_t hb | replace hb := dec_f hb | replace hb := not_t hb | replace hb := not_f hb)) <;> (try (exfalso; first | omega)))))
    all_goals (try (exfalso; omega))
    refine WP_loop (fun q : Nat => ([(1, isl eTok b), (2, ex (.func (.func 41) #[] #[])), (15, isl eTok a), (16, exI .i64 a.length), (17, exI .i64 q)], [])) (fun q => q ≤ a.length ∧ ∀ i (h1 : i < a.length) (h2 : i < b.length), i < q → keyT a[i] = keyT b[i]) (fun q => a.length - q) 0 ?_ ⟨Nat.zero_le _, fun i _ _ h => absurd h (by omega)⟩ fun m hm => ?_
    · exact Leads_env (by repeat (first | exact sub_nil | refine sub_cons rfl ?_)) (List.Sublist.refl _)
    obtain ⟨hm, hpre⟩ := hm
    by_cases hlt : m < a.length
    · have hlt2 : m < b.length := by omega
      have hcall := same1_any a[m] b[m]
      by_cases he : keyT a[m] = keyT b[m]
      · rw [decide_eq_true he] at hcall
        have hok : ∀ i (h1 : i < a.length) (h2 : i < b.length), i < m + 1 → keyT a[i] = keyT b[i] := fun i h1 h2 h3 => by
          by_cases e : i = m
          · subst e; exact he
          · exact hpre i h1 h2 (by omega)
        clear hpre
        (repeat' (first | refine WP_seq ?_ | refine WP_region ?_ | refine WPL_nil ?_ | (apply WPL_t; (first | exact WT_move rfl | exact WT_assign rfl | (apply g_load; first | exact WT_loadfa rfl rfl | exact WT_loada2 (k := 0) rfl rfl rfl | exact WT_loada2 (k := 1) rfl rfl rfl) | (apply g_bin; first | exact WT_lss rfl rfl | exact WT_add rfl rfl) | (apply g_index; first | exact WT_index rfl rfl rfl) | (apply g_un; first | exact WT_not rfl)); exact rfl) | refine WP_block ?_ | refine WP_skip ?_ | refine WP_cond_f rfl ?_ | (apply WPL_op0; exact rfl; first | (apply g_callf; first | (refine WO_callv (vs := []) (args := [_, _]) rfl Tryd.func41 rfl hcall rfl ?_; rintro _ _ ⟨rfl, rfl⟩)) | (apply g_alloc; refine WO_alloc ?_; intro _) | (apply g_store; first | refine WO_store (k := 0) (l0 := []) rfl rfl rfl ?_)) | (refine WP_cond rfl (fun hb => ?_) (fun hb => ?_) <;> (repeat (first | replace hb := dec_t hb | replace hb := dec_f hb)) <;> (try (exfalso; first | omega)))))
        all_goals (try (exfalso; first | contradiction | omega))
        exact ⟨m + 1, ⟨by omega, hok⟩, by omega, Leads_env (by repeat (first | exact sub_nil | refine sub_cons rfl ?_)) (List.nil_sublist _)⟩
      · rw [decide_eq_false he] at hcall
        rw [sameL_no m hlt hlt2 he]
        clear hpre
        (repeat' (first | refine WP_seq ?_ | refine WP_region ?_ | refine WPL_nil ?_ | (apply WPL_t; (first | exact WT_move rfl | exact WT_assign rfl | (apply g_load; first | exact WT_loadfa rfl rfl | exact WT_loada2 (k := 0) rfl rfl rfl | exact WT_loada2 (k := 1) rfl rfl rfl) | (apply g_bin; first | exact WT_lss rfl rfl) | (apply g_index; first | exact WT_index rfl rfl rfl) | (apply g_un; first | exact WT_not rfl)); exact rfl) | refine WP_block ?_ | refine WP_skip ?_ | refine WP_ret ?_ | refine WP_cond_t rfl ?_ | (apply WPL_op0; exact rfl; first | (apply g_callf; first | (refine WO_callv (vs := []) (args := [_, _]) rfl Tryd.func41 rfl hcall rfl ?_; rintro _ _ ⟨rfl, rfl⟩)) | (apply g_alloc; refine WO_alloc ?_; intro _) | (apply g_store; first | refine WO_store (k := 0) (l0 := []) rfl rfl rfl ?_)) | (refine WP_cond rfl (fun hb => ?_) (fun hb => ?_) <;> (repeat (first | replace hb := dec_t hb | replace hb := dec_f hb)) <;> (try (exfalso; first | omega)))))
        all_goals (try (exfalso; first | contradiction | omega))
        exact ⟨.inr rfl, ret1 rfl (.tmp rfl) (List.nil_sublist _) ⟨rfl, rfl⟩⟩
    · rw [sameL_iff.2 ⟨hl, fun i h1 h2 => hpre i h1 h2 (by omega)⟩]
      clear hpre
      (repeat' (first | refine WP_seq ?_ | refine WP_region ?_ | refine WPL_nil ?_ | (apply WPL_t; (first | exact WT_assign rfl | (apply g_bin; first | exact WT_lss rfl rfl)); exact rfl) | refine WP_ret ?_ | refine WP_exit ?_ | (refine WP_cond rfl (fun hb => ?_) (fun hb => ?_) <;> (repeat (first | replace hb := dec_t hb | replace hb := dec_f hb)) <;> (try (exfalso; first | omega)))))
      all_goals (try (exfalso; omega))
      exact ⟨.inr rfl, ret1 rfl (.tmp rfl) (List.nil_sublist _) ⟨rfl, rfl⟩⟩
  · rw [sameL_len hl]
    (repeat' (first | refine WP_seq ?_ | refine WP_region ?_ | refine WPL_nil ?_ | (apply WPL_t; (first | exact WT_move rfl | exact WT_assign rfl | (apply g_bin; first | exact WT_neq rfl rfl) | (apply g_call; first | exact WT_len rfl rfl)); exact rfl) | refine WP_ret ?_ | (refine WP_cond rfl (fun hb => ?_) (fun hb => ?_) <;> (repeat (first | replace hb := dec_t hb | replace hb := dec_f hb | replace hb := not_t hb | replace hb := not_f hb)) <;> (try (exfalso; first | omega)))))
    all_goals (try (exfalso; omega))
    all_goals exact ⟨.inr rfl, ret1 rfl (.tmp rfl) (List.nil_sublist _) ⟨rfl, rfl⟩⟩
set_option maxRecDepth 100000 in
theorem same3_any (a b : List TokD) : FnC Tryd.prog 17 [isl eTok a, isl eTok b] [] (fun p loc => p = exB (sameL a b) ∧ loc = []) := by
  refine FnC_enter Tryd.func17 rfl Tryd.ntmps17 rfl fun w0 F0 out => ?_
  (repeat' (first | refine WP_seq ?_ | refine WP_region ?_ | refine WPL_nil ?_ | (apply WPL_t; (first | exact WT_move rfl | exact WT_assign rfl); exact rfl) | refine WP_ret ?_ | (apply WPL_op0; exact rfl; first | (apply g_callf; first | (refine WO_call Tryd.func40 rfl (eqfTok_any a b) rfl ?_; rintro _ _ ⟨rfl, rfl⟩)))))
  exact ⟨.inr rfl, ret1 rfl (.tmp rfl) (List.nil_sublist _) ⟨rfl, rfl⟩⟩
/-- What is wanted of Few: that there are not many. -/
def fewT (l : List TokD) (b : Bool) : Prop := b = true → l.length ≤ 200
set_option maxHeartbeats 1000000 in
set_option maxRecDepth 100000 in
theorem r3few_any (l : List TokD) : FnC Tryd.prog 14 [isl eTok l] [] (fun p loc => (∃ b, p = exB b ∧ fewT l b) ∧ loc = []) := by
  refine FnC_says (i := 0) rfl Says_isl fun ha => ?_
  obtain ⟨ha, -⟩ := ha
  simp only [maxLen] at ha
  refine FnC_enter Tryd.func14 rfl Tryd.ntmps14 rfl fun w0 F0 out => ?_
  (repeat' (first | refine WP_seq ?_ | refine WP_region ?_ | refine WPL_nil ?_ | (apply WPL_t; (first | exact WT_assign rfl); exact rfl) | refine WP_block ?_))
  refine WP_loop (fun x : Nat × Int => ([(0, isl eTok l), (3, exI .i64 x.2), (4, exI .i64 (x.1 : Int))], [])) (fun x => x.1 ≤ l.length) (fun x => l.length - x.1) (0, 0) ?_ (Nat.zero_le _) fun x hi => ?_
  · exact Leads_env (by repeat (first | exact sub_nil | refine sub_cons rfl ?_)) (List.Sublist.refl _)
  obtain ⟨i, n⟩ := x
  simp only at hi ⊢
  by_cases hlt : i < l.length
  · (repeat' (first | (apply at_dst 18; apply WPL_t; exact WT_addw rfl rfl; exact rfl) | refine WP_seq ?_ | refine WP_region ?_ | refine WPL_nil ?_ | (apply WPL_t; (first | exact WT_move rfl | exact WT_assign rfl | (apply g_load; first | exact WT_loadf rfl rfl) | (apply g_fld; first | exact WT_fieldf rfl rfl rfl) | (apply g_bin; first | exact WT_lss rfl rfl | exact WT_add rfl rfl) | (apply g_index; first | exact WT_index rfl rfl rfl) | (apply g_call; first | exact WT_lent rfl rfl | exact WT_len rfl rfl)); exact rfl) | refine WP_block ?_ | refine WP_skip ?_ | (refine WP_cond rfl (fun hb => ?_) (fun hb => ?_) <;> (repeat (first | replace hb := dec_t hb | replace hb := dec_f hb)) <;> (try (exfalso; first | omega)))))
    all_goals (try (exfalso; omega))
    exact ⟨(i + 1, _), by show i + 1 ≤ _; omega, by show l.length - (i + 1) < l.length - i; omega, Leads_env (by repeat (first | exact sub_nil | refine sub_cons rfl ?_)) (List.Sublist.refl _)⟩
  · (repeat' (first | refine WP_seq ?_ | refine WP_region ?_ | refine WPL_nil ?_ | (apply WPL_t; (first | exact WT_move rfl | exact WT_assign rfl | exact WT_pick (b := true) rfl (fun _ => rfl) (fun e => by cases e) | exact WT_pick (b := false) rfl (fun e => by cases e) (fun _ => rfl) | (apply g_bin; first | exact WT_lss rfl rfl | exact WT_leq rfl rfl) | (apply g_call; first | exact WT_len rfl rfl)); exact rfl) | (refine WPL_off rfl rfl rfl rfl rfl ?_) | (apply WPL_gt; exact rfl; exact rfl; exact rfl; (first | exact WT_move rfl | (apply g_bin; first | exact WT_leq rfl rfl)); exact rfl) | refine WP_ret ?_ | refine WP_exit ?_ | (refine WPL_case rfl rfl (fun hb => ?_) (fun hb => ?_) <;> (repeat (first | replace hb := dec_t hb | replace hb := dec_f hb)) <;> (try (exfalso; first | fail))) | (refine WP_cond rfl (fun hb => ?_) (fun hb => ?_) <;> (repeat (first | replace hb := dec_t hb | replace hb := dec_f hb)) <;> (try (exfalso; first | omega)))))
    all_goals (try (exfalso; omega))
    all_goals (refine ⟨.inr rfl, ret1 rfl (.tmp rfl) (List.nil_sublist _) ⟨⟨_, rfl, ?_⟩, rfl⟩⟩)
    all_goals (unfold fewT; intro h; first | (cases h; done) | omega)
set_option maxHeartbeats 1000000 in
set_option maxRecDepth 100000 in
theorem r3decimal_any (n : Nat) (hn : n ≤ 1099511627776) : FnC Tryd.prog 39 [exI .i64 (n : Int)] [] (fun p loc => p = exT (decF n) ∧ loc = []) := by
  refine FnC_enter Tryd.func39 rfl Tryd.ntmps39 rfl fun w0 F0 out => ?_
  (repeat' (first | (apply at_dst 9; refine WPL_frow (k := 0) (E := eByte) (t := 8) [UInt8.ofNat (48 + n % 10)] rfl rfl rfl rfl ?_) | refine WP_seq ?_ | refine WP_region ?_ | refine WPL_nil ?_ | (apply WPL_t; (first | exact WT_move rfl | exact WT_assign rfl | (apply g_bin; first | exact WT_add rfl rfl | exact WT_rem rfl rfl) | (apply g_conv; first | exact WT_convu8 rfl rfl rfl | exact WT_b2s rfl rfl rfl rfl)); exact rfl) | refine WP_block ?_ | (apply WPL_op0; exact rfl; first | (apply g_bslice; (first | refine WO_bslice1 rfl rfl ?_); intro _))))
  refine WP_loop (fun x : Nat × List UInt8 => ([(0, exI .i64 (x.1 : Int)), (3, exT (UInt8.ofNat (48 + x.1 % 10) :: x.2))], [])) (fun x => x.1 ≤ 1099511627776 ∧ decF n = decF x.1 ++ x.2 ∧ x.2.length ≤ 20) (fun x => x.1) (n, []) ?_ ⟨hn, by simp, by simp⟩ fun x hx => ?_
  · exact Leads_env (by repeat (first | exact sub_nil | refine sub_cons rfl ?_)) (List.Sublist.refl _)
  obtain ⟨m, e⟩ := x
  obtain ⟨hm, he, hle⟩ := hx
  simp only at hm he hle ⊢
  have hdl := decF_len 12 n (by show _ < 10000000000000; omega)
  by_cases hlt : 10 ≤ m
  · rw [decF_big (n := m) (by omega)] at he
    have hel := congrArg List.length he
    have hne := List.length_pos_iff.2 (decF_ne (m / 10))
    simp only [List.length_append, List.length_cons, List.length_nil] at hel
    (repeat' (first | (apply at_dst 19; refine WPL_frow (k := 0) (E := eByte) (t := 18) [UInt8.ofNat (48 + m / 10 % 10)] rfl rfl rfl rfl ?_) | refine WP_seq ?_ | refine WP_region ?_ | refine WPL_nil ?_ | (apply WPL_t; (first | exact WT_move rfl | exact WT_assign rfl | (apply g_bin; first | exact WT_catT rfl rfl | exact WT_geq rfl rfl | exact WT_add rfl rfl | exact WT_rem rfl rfl | exact WT_quo rfl rfl) | (apply g_conv; first | exact WT_convu8 rfl rfl rfl | exact WT_b2s rfl rfl rfl rfl)); exact rfl) | refine WP_block ?_ | refine WP_skip ?_ | (apply WPL_op0; exact rfl; first | (apply g_bslice; (first | refine WO_bslice1 rfl rfl ?_); intro _)) | (refine WP_cond rfl (fun hb => ?_) (fun hb => ?_) <;> (repeat (first | replace hb := dec_t hb | replace hb := dec_f hb)) <;> (try (exfalso; first | omega)))))
    all_goals (try (exfalso; omega))
    exact ⟨(m / 10, UInt8.ofNat (48 + m % 10) :: e), ⟨by show m / 10 ≤ _; omega, by rw [he]; simp, by simp only [List.length_cons]; omega⟩, by show m / 10 < m; omega, Leads_env (by repeat (first | exact sub_nil | refine sub_cons rfl ?_)) (List.Sublist.refl _)⟩
  · rw [decF_small (n := m) (by omega)] at he
    rw [he]
    (repeat' (first | refine WP_seq ?_ | refine WP_region ?_ | refine WPL_nil ?_ | (apply WPL_t; (first | exact WT_move rfl | exact WT_assign rfl | (apply g_bin; first | exact WT_geq rfl rfl)); exact rfl) | refine WP_ret ?_ | refine WP_exit ?_ | (refine WP_cond rfl (fun hb => ?_) (fun hb => ?_) <;> (repeat (first | replace hb := dec_t hb | replace hb := dec_f hb)) <;> (try (exfalso; first | omega)))))
    all_goals (try (exfalso; omega))
    refine ⟨.inr rfl, ret1 rfl (.tmp rfl) (List.nil_sublist _) ⟨?_, rfl⟩⟩
    rw [Nat.mod_eq_of_lt (by omega)]; rfl
end Go.Proofs.YtdpabdbeecbnmaaDoor

/- Chapter 03: Text of the specification and of the program. -/
-- STRINGS
-- ROWS
-- PRUNEC
-- IFACE
-- CATT
namespace Go.Lx
theorem textA_no {l : List TokD} {i : Nat} (hi : i < l.length) (h : validB l[i] = false) : textA l = ([], 30) := by
  unfold textA
  rw [if_neg (fun e => by rw [List.all_eq_true.1 e l[i] (List.getElem_mem hi)] at h; cases h)]
theorem textA_yes {l : List TokD} (h : ∀ t ∈ l, validB t = true) : textA l = (joinF (l.map word), 0) := by
  unfold textA
  rw [if_pos (List.all_eq_true.2 h)]
theorem valid_num {t : TokD} (h : validB t = true) (h2 : t.kind = 2) : ((t.n.toNat : Nat) : Int) = t.n ∧ t.n.toNat ≤ 1099511627776 := by
  unfold validB at h
  rw [if_neg (by omega), if_pos h2] at h
  simp only [Bool.and_eq_true, decide_eq_true_eq] at h
  omega
theorem word_num {t : TokD} (h : t.kind = 2) : word t = decF t.n.toNat := by unfold word; rw [if_pos h]
theorem word_text {t : TokD} (h : ¬ t.kind = 2) : word t = t.text := by unfold word; rw [if_neg h]
theorem pre_succ {l : List TokD} {i : Nat} (hi : i < l.length) (hv : ∀ t ∈ l.take i, validB t = true) (h : validB l[i] = true) : ∀ t ∈ l.take (i + 1), validB t = true := fun t ht => by
  rw [List.take_succ_eq_append_getElem hi] at ht
  rcases List.mem_append.1 ht with ht | ht
  · exact hv t ht
  · rw [List.mem_singleton.1 ht]; exact h
theorem joined_succ {l : List TokD} {i : Nat} (hi : i < l.length) : joinF ((l.take (i + 1)).map word) = if i = 0 then word l[i] else joinF ((l.take i).map word) ++ 32 :: word l[i] := by
  rw [List.take_succ_eq_append_getElem hi, List.map_append]
  by_cases h : i = 0
  · subst h; rw [if_pos rfl]; rfl
  · rw [if_neg h]
    exact joinF_snoc _ _ (by rw [ne_eq, List.map_eq_nil_iff]; intro e; have := congrArg List.length e; rw [List.length_take, List.length_nil] at this; omega)
end Go.Lx
namespace Go.Proofs.YtdpabdbeecbnmaaDoor
open Go Go.RowKit Go.Kx Go.Fr Go.Lx
def textV (z : List UInt8 × Int) : SP := tup [exT z.1, exI .i64 z.2]
set_option maxHeartbeats 2000000 in
set_option maxRecDepth 100000 in
theorem r3text_any (l : List TokD) : FnC Tryd.prog 16 [isl eTok l] [] (fun p loc => p = textV (textA l) ∧ loc = []) := by
  refine FnC_says (i := 0) rfl Says_isl fun ha => ?_
  replace ha : l.length * 40 ≤ 140737488355328 := ha.2
  generalize hz : textA l = z
  unfold textV
  refine FnC_enter Tryd.func16 rfl Tryd.ntmps16 rfl fun w0 F0 out => ?_
  (repeat' (first | refine WP_seq ?_ | refine WP_region ?_ | refine WPL_nil ?_ | (apply WPL_t; (first | exact WT_assign rfl); exact rfl) | refine WP_block ?_))
  refine WP_loop (fun x : Nat × List UInt8 => ([(0, isl eTok l), (4, exT x.2), (5, exI .i64 (x.1 : Int))], [])) (fun x => x.1 ≤ l.length ∧ x.2 = joinF ((l.take x.1).map word) ∧ ∀ t ∈ l.take x.1, validB t = true) (fun x => l.length - x.1) (0, []) ?_ ⟨Nat.zero_le _, rfl, fun t h => by cases h⟩ fun x hi => ?_
  · exact Leads_env (by repeat (first | exact sub_nil | refine sub_cons rfl ?_)) (List.Sublist.refl _)
  obtain ⟨i, s⟩ := x
  obtain ⟨hi, hs, hpre⟩ := hi
  simp only at hi hs hpre ⊢
  by_cases hlt : i < l.length
  · have hvl := r3valid_any l[i]
    cases hv : validB l[i]
    · rw [hv] at hvl
      rw [textA_no hlt hv] at hz
      subst hz
      clear hpre
      (repeat' (first | refine WP_seq ?_ | refine WP_region ?_ | refine WPL_nil ?_ | (apply WPL_t; (first | exact WT_move rfl | exact WT_assign rfl | (apply g_load; first | exact WT_loadfa rfl rfl) | (apply g_bin; first | exact WT_lss rfl rfl) | (apply g_index; first | exact WT_index rfl rfl rfl) | (apply g_call; first | exact WT_len rfl rfl) | (apply g_un; first | exact WT_not rfl)); exact rfl) | refine WP_block ?_ | refine WP_skip ?_ | refine WP_ret ?_ | refine WP_cond_t rfl ?_ | (apply WPL_op0; exact rfl; first | (apply g_callf; first | (refine WO_call Tryd.func38 rfl hvl rfl ?_; rintro _ _ ⟨rfl, rfl⟩))) | (refine WP_cond rfl (fun hb => ?_) (fun hb => ?_) <;> (repeat (first | replace hb := dec_t hb | replace hb := dec_f hb)) <;> (try (exfalso; first | omega)))))
      all_goals (try (exfalso; first | contradiction | omega))
      all_goals exact ⟨.inr rfl, ret2 rfl (.tmp rfl) (.tmp rfl) (List.nil_sublist _) ⟨rfl, rfl⟩⟩
    · rw [hv] at hvl
      have hpre2 := pre_succ hlt hpre hv
      have hsl : s.length ≤ 33 * l.length := by
        have := words_len hpre
        rw [← hs, List.length_take] at this
        omega
      have hwl := word_len hv
      have hj := joined_succ hlt
      rw [← hs] at hj
      clear hpre
      by_cases h2 : l[i].kind = 2
      · obtain ⟨hn1, hn2⟩ := valid_num hv h2
        have hdec := r3decimal_any l[i].n.toNat hn2
        rw [hn1, ← word_num h2] at hdec
        clear hn1
        by_cases h0 : i = 0
        · rw [if_pos h0] at hj
          have hs0 : s = [] := by rw [hs, h0]; rfl
          subst hs0
          clear hs
          (repeat' (first | refine WP_seq ?_ | refine WP_region ?_ | refine WPL_nil ?_ | (apply WPL_t; (first | exact WT_move rfl | exact WT_assign rfl | (apply g_load; first | exact WT_loadf rfl rfl | exact WT_loadfa rfl rfl) | (apply g_fld; first | exact WT_fieldf rfl rfl rfl) | (apply g_bin; first | exact WT_catT rfl rfl | exact WT_lss rfl rfl | exact WT_eql rfl rfl | exact WT_gtr rfl rfl | exact WT_add rfl rfl) | (apply g_index; first | exact WT_index rfl rfl rfl) | (apply g_call; first | exact WT_len rfl rfl) | (apply g_un; first | exact WT_not rfl)); exact rfl) | refine WP_block ?_ | refine WP_skip ?_ | refine WP_cond_f rfl ?_ | (apply WPL_op0; exact rfl; first | (apply g_callf; first | (refine WO_call Tryd.func38 rfl hvl rfl ?_; rintro _ _ ⟨rfl, rfl⟩) | (refine WO_call Tryd.func39 rfl hdec rfl ?_; rintro _ _ ⟨rfl, rfl⟩))) | (refine WP_cond rfl (fun hb => ?_) (fun hb => ?_) <;> (repeat (first | replace hb := dec_t hb | replace hb := dec_f hb)) <;> (try (exfalso; first | contradiction | omega)))))
          all_goals (try (exfalso; first | contradiction | omega))
          exact ⟨(i + 1, word l[i]), ⟨by show i + 1 ≤ _; omega, hj.symm, hpre2⟩, by show l.length - (i + 1) < l.length - i; omega, Leads_env (by repeat (first | exact sub_nil | refine sub_cons rfl ?_)) (List.Sublist.refl _)⟩
        · rw [if_neg h0] at hj
          clear hs
          (repeat' (first | refine WP_seq ?_ | refine WP_region ?_ | refine WPL_nil ?_ | (apply WPL_t; (first | exact WT_move rfl | exact WT_assign rfl | (apply g_load; first | exact WT_loadf rfl rfl | exact WT_loadfa rfl rfl) | (apply g_fld; first | exact WT_fieldf rfl rfl rfl) | (apply g_bin; first | exact WT_catT rfl rfl | exact WT_lss rfl rfl | exact WT_eql rfl rfl | exact WT_gtr rfl rfl | exact WT_add rfl rfl) | (apply g_index; first | exact WT_index rfl rfl rfl) | (apply g_call; first | exact WT_len rfl rfl) | (apply g_un; first | exact WT_not rfl)); exact rfl) | refine WP_block ?_ | refine WP_skip ?_ | refine WP_cond_f rfl ?_ | (apply WPL_op0; exact rfl; first | (apply g_callf; first | (refine WO_call Tryd.func38 rfl hvl rfl ?_; rintro _ _ ⟨rfl, rfl⟩) | (refine WO_call Tryd.func39 rfl hdec rfl ?_; rintro _ _ ⟨rfl, rfl⟩))) | (refine WP_cond rfl (fun hb => ?_) (fun hb => ?_) <;> (repeat (first | replace hb := dec_t hb | replace hb := dec_f hb)) <;> (try (exfalso; first | contradiction | omega)))))
          all_goals (try (exfalso; first | contradiction | omega))
          exact ⟨(i + 1, (s ++ [32]) ++ word l[i]), ⟨by show i + 1 ≤ _; omega, by show (s ++ [32]) ++ word l[i] = _; rw [hj]; simp, hpre2⟩, by show l.length - (i + 1) < l.length - i; omega, Leads_env (by repeat (first | exact sub_nil | refine sub_cons rfl ?_)) (List.Sublist.refl _)⟩
      · rw [word_text h2] at hwl hj
        by_cases h0 : i = 0
        · rw [if_pos h0] at hj
          have hs0 : s = [] := by rw [hs, h0]; rfl
          subst hs0
          clear hs
          (repeat' (first | refine WP_seq ?_ | refine WP_region ?_ | refine WPL_nil ?_ | (apply WPL_t; (first | exact WT_move rfl | exact WT_assign rfl | (apply g_load; first | exact WT_loadf rfl rfl | exact WT_loadfa rfl rfl) | (apply g_fld; first | exact WT_fieldf rfl rfl rfl) | (apply g_bin; first | exact WT_catT rfl rfl | exact WT_lss rfl rfl | exact WT_eql rfl rfl | exact WT_gtr rfl rfl | exact WT_add rfl rfl) | (apply g_index; first | exact WT_index rfl rfl rfl) | (apply g_call; first | exact WT_len rfl rfl) | (apply g_un; first | exact WT_not rfl)); exact rfl) | refine WP_block ?_ | refine WP_skip ?_ | refine WP_cond_f rfl ?_ | (apply WPL_op0; exact rfl; first | (apply g_callf; first | (refine WO_call Tryd.func38 rfl hvl rfl ?_; rintro _ _ ⟨rfl, rfl⟩))) | (refine WP_cond rfl (fun hb => ?_) (fun hb => ?_) <;> (repeat (first | replace hb := dec_t hb | replace hb := dec_f hb)) <;> (try (exfalso; first | contradiction | omega)))))
          all_goals (try (exfalso; first | contradiction | omega))
          exact ⟨(i + 1, l[i].text), ⟨by show i + 1 ≤ _; omega, hj.symm, hpre2⟩, by show l.length - (i + 1) < l.length - i; omega, Leads_env (by repeat (first | exact sub_nil | refine sub_cons rfl ?_)) (List.Sublist.refl _)⟩
        · rw [if_neg h0] at hj
          clear hs
          (repeat' (first | refine WP_seq ?_ | refine WP_region ?_ | refine WPL_nil ?_ | (apply WPL_t; (first | exact WT_move rfl | exact WT_assign rfl | (apply g_load; first | exact WT_loadf rfl rfl | exact WT_loadfa rfl rfl) | (apply g_fld; first | exact WT_fieldf rfl rfl rfl) | (apply g_bin; first | exact WT_catT rfl rfl | exact WT_lss rfl rfl | exact WT_eql rfl rfl | exact WT_gtr rfl rfl | exact WT_add rfl rfl) | (apply g_index; first | exact WT_index rfl rfl rfl) | (apply g_call; first | exact WT_len rfl rfl) | (apply g_un; first | exact WT_not rfl)); exact rfl) | refine WP_block ?_ | refine WP_skip ?_ | refine WP_cond_f rfl ?_ | (apply WPL_op0; exact rfl; first | (apply g_callf; first | (refine WO_call Tryd.func38 rfl hvl rfl ?_; rintro _ _ ⟨rfl, rfl⟩))) | (refine WP_cond rfl (fun hb => ?_) (fun hb => ?_) <;> (repeat (first | replace hb := dec_t hb | replace hb := dec_f hb)) <;> (try (exfalso; first | contradiction | omega)))))
          all_goals (try (exfalso; first | contradiction | omega))
          exact ⟨(i + 1, (s ++ [32]) ++ l[i].text), ⟨by show i + 1 ≤ _; omega, by show (s ++ [32]) ++ l[i].text = _; rw [hj]; simp, hpre2⟩, by show l.length - (i + 1) < l.length - i; omega, Leads_env (by repeat (first | exact sub_nil | refine sub_cons rfl ?_)) (List.Sublist.refl _)⟩
  · rw [show i = l.length by omega, List.take_length] at hpre hs
    rw [textA_yes hpre, ← hs] at hz
    subst hz
    clear hpre
    (repeat' (first | refine WP_seq ?_ | refine WP_region ?_ | refine WPL_nil ?_ | (apply WPL_t; (first | exact WT_move rfl | exact WT_assign rfl | (apply g_bin; first | exact WT_lss rfl rfl) | (apply g_call; first | exact WT_len rfl rfl)); exact rfl) | refine WP_ret ?_ | refine WP_exit ?_ | (refine WP_cond rfl (fun hb => ?_) (fun hb => ?_) <;> (repeat (first | replace hb := dec_t hb | replace hb := dec_f hb)) <;> (try (exfalso; first | omega)))))
    all_goals (try (exfalso; omega))
    exact ⟨.inr rfl, ret2 rfl (.tmp rfl) (.tmp rfl) (List.nil_sublist _) ⟨rfl, rfl⟩⟩
set_option maxHeartbeats 2000000 in
set_option maxRecDepth 100000 in
theorem text3_any (l : List TokD) : FnC Tryd.prog 15 [isl eTok l] [Lab] (fun p loc => p = textV (textA l) ∧ loc = []) := by
  refine FnC_says (i := 0) rfl Says_isl fun ha => ?_
  replace ha : l.length * 40 ≤ 140737488355328 := ha.2
  generalize hz : textA l = z
  unfold textV
  refine FnC_enter Tryd.func15 rfl Tryd.ntmps15 rfl fun w0 F0 out => ?_
  (repeat' (first | refine WP_seq ?_ | refine WP_region ?_ | refine WPL_nil ?_ | (apply WPL_t; (first | exact WT_move rfl | exact WT_assign rfl | (apply g_call; first | exact WT_len rfl rfl)); exact rfl) | refine WP_block ?_ | (apply WPL_op0; exact rfl; first | (apply g_make; refine WO_make rfl rfl rfl ?_; intro _))))
  rename_i b4
  refine WP_loop (fun x : Nat × List (List UInt8) => ([(4, ex (.slice (some ⟨b4, 0, none⟩) l.length l.length)), (10, isl eTok l), (11, exI .i64 (l.length : Int)), (12, exI .i64 (x.1 : Int))], [row b4 9 l.length (x.2.map exT), Lab])) (fun x => x.1 ≤ l.length ∧ x.2.length = l.length ∧ x.2.take x.1 = (l.take x.1).map word ∧ ∀ t ∈ l.take x.1, validB t = true) (fun x => l.length - x.1) (0, List.replicate l.length []) ?_ ⟨Nat.zero_le _, by simp, rfl, fun t h => by cases h⟩ fun x hi => ?_
  · simp only [List.map_replicate]
    exact Leads_env (by repeat (first | exact sub_nil | refine sub_cons rfl ?_)) (List.Sublist.refl _)
  obtain ⟨i, ws⟩ := x
  obtain ⟨hi, hwl, hws, hpre⟩ := hi
  simp only at hi hwl hws hpre ⊢
  by_cases hlt : i < l.length
  · have hvl := valid_any l[i]
    cases hv : validB l[i]
    · rw [hv] at hvl
      rw [textA_no hlt hv] at hz
      subst hz
      clear hpre hws
      (repeat' (first | refine WP_seq ?_ | refine WP_region ?_ | refine WPL_nil ?_ | (apply WPL_t; (first | exact WT_move rfl | exact WT_assign rfl | (apply g_load; first | exact WT_loadfa rfl rfl | exact WT_loada2 (k := 0) rfl rfl rfl) | (apply g_bin; first | exact WT_lss rfl rfl) | (apply g_index; first | exact WT_index rfl rfl rfl) | (apply g_un; first | exact WT_not rfl)); exact rfl) | refine WP_block ?_ | refine WP_skip ?_ | refine WP_ret ?_ | refine WP_cond_t rfl ?_ | (apply WPL_op0; exact rfl; first | (apply g_callf; first | (refine WO_call Tryd.func35 rfl hvl rfl ?_; rintro _ _ ⟨rfl, rfl⟩)) | (apply g_alloc; refine WO_alloc ?_; intro _) | (apply g_store; first | refine WO_store (k := 0) (l0 := []) rfl rfl rfl ?_)) | (refine WP_cond rfl (fun hb => ?_) (fun hb => ?_) <;> (repeat (first | replace hb := dec_t hb | replace hb := dec_f hb)) <;> (try (exfalso; first | omega)))))
      all_goals (try (exfalso; first | contradiction | omega))
      all_goals exact ⟨.inr rfl, ret2 rfl (.tmp rfl) (.tmp rfl) (List.nil_sublist _) ⟨rfl, rfl⟩⟩
    · rw [hv] at hvl
      have hpre2 := pre_succ hlt hpre hv
      have hws2 : ∀ w, w = word l[i] → (ws.set i w).take (i + 1) = (l.take (i + 1)).map word := fun w e => by
        rw [List.take_succ_eq_append_getElem (by rw [List.length_set]; omega), List.take_set_of_le (Nat.le_refl _), List.getElem_set_self, hws, List.take_succ_eq_append_getElem hlt, List.map_append, e]; rfl
      clear hpre hws
      by_cases h2 : l[i].kind = 2
      · obtain ⟨hn1, hn2⟩ := valid_num hv h2
        have hito := itoa_any l[i].n.toNat (by omega)
        rw [hn1, ← word_num h2] at hito
        clear hn1
        have hput := putC_set exT ws i (word l[i]) (by omega)
        (repeat' (first | refine WP_seq ?_ | refine WP_region ?_ | refine WPL_nil ?_ | (apply WPL_t; (first | exact WT_move rfl | exact WT_assign rfl | (apply g_load; first | exact WT_load (k := 0) rfl rfl rfl rfl | exact WT_loadfa rfl rfl | exact WT_loada2 (k := 0) rfl rfl rfl) | (apply g_fld; first | exact WT_field rfl rfl rfl) | (apply g_bin; first | exact WT_lss rfl rfl | exact WT_eql rfl rfl | exact WT_add rfl rfl) | (apply g_index; first | exact WT_index rfl rfl rfl | exact WT_indexo rfl rfl rfl) | (apply g_un; first | exact WT_not rfl)); exact rfl) | refine WP_block ?_ | refine WP_skip ?_ | refine WP_cond_f rfl ?_ | (apply WPL_op0; exact rfl; first | (apply g_callf; first | (refine WO_call Tryd.func35 rfl hvl rfl ?_; rintro _ _ ⟨rfl, rfl⟩) | (refine WO_callG (.dup 2 rfl rfl .nil) Tryd.func36 rfl hito rfl ?_; rintro _ _ ⟨rfl, rfl⟩)) | (apply g_alloc; refine WO_alloc ?_; intro _) | (apply g_store; first | refine WO_store (k := 0) (l0 := []) rfl rfl rfl ?_ | refine WO_store (k := 1) (l0 := []) rfl rfl rfl ?_)) | (refine WP_cond rfl (fun hb => ?_) (fun hb => ?_) <;> (repeat (first | replace hb := dec_t hb | replace hb := dec_f hb)) <;> (try (exfalso; first | contradiction | omega)))))
        all_goals (try (exfalso; first | contradiction | omega))
        simp only [Nat.zero_add, Nat.mul_one, hput]
        exact ⟨(i + 1, ws.set i (word l[i])), ⟨by show i + 1 ≤ _; omega, by rw [List.length_set]; exact hwl, hws2 _ rfl, hpre2⟩, by show l.length - (i + 1) < l.length - i; omega, Leads_env (by repeat (first | exact sub_nil | refine sub_cons rfl ?_)) (by exact .cons _ (.refl _))⟩
      · rw [word_text h2] at hws2
        have hput := putC_set exT ws i l[i].text (by omega)
        (repeat' (first | refine WP_seq ?_ | refine WP_region ?_ | refine WPL_nil ?_ | (apply WPL_t; (first | exact WT_move rfl | exact WT_assign rfl | (apply g_load; first | exact WT_load (k := 0) rfl rfl rfl rfl | exact WT_loadfa rfl rfl | exact WT_loada2 (k := 0) rfl rfl rfl) | (apply g_fld; first | exact WT_field rfl rfl rfl) | (apply g_bin; first | exact WT_lss rfl rfl | exact WT_eql rfl rfl | exact WT_add rfl rfl) | (apply g_index; first | exact WT_index rfl rfl rfl | exact WT_indexo rfl rfl rfl) | (apply g_un; first | exact WT_not rfl)); exact rfl) | refine WP_block ?_ | refine WP_skip ?_ | refine WP_cond_f rfl ?_ | (apply WPL_op0; exact rfl; first | (apply g_callf; first | (refine WO_call Tryd.func35 rfl hvl rfl ?_; rintro _ _ ⟨rfl, rfl⟩)) | (apply g_alloc; refine WO_alloc ?_; intro _) | (apply g_store; first | refine WO_store (k := 0) (l0 := []) rfl rfl rfl ?_ | refine WO_store (k := 1) (l0 := []) rfl rfl rfl ?_)) | (refine WP_cond rfl (fun hb => ?_) (fun hb => ?_) <;> (repeat (first | replace hb := dec_t hb | replace hb := dec_f hb)) <;> (try (exfalso; first | contradiction | omega)))))
        all_goals (try (exfalso; first | contradiction | omega))
        simp only [Nat.zero_add, Nat.mul_one, hput]
        exact ⟨(i + 1, ws.set i l[i].text), ⟨by show i + 1 ≤ _; omega, by rw [List.length_set]; exact hwl, hws2 _ rfl, hpre2⟩, by show l.length - (i + 1) < l.length - i; omega, Leads_env (by repeat (first | exact sub_nil | refine sub_cons rfl ?_)) (by exact .cons _ (.refl _))⟩
  · rw [show i = l.length by omega, List.take_length, ← hwl, List.take_length] at hws
    rw [show i = l.length by omega, List.take_length] at hpre
    rw [textA_yes hpre] at hz
    subst hz
    have hjl := words_len hpre
    have hjoin := join_any (l.map word) (by rw [List.length_map]; omega) (by omega)
    subst hws
    clear hpre
    have hfl : ∀ x : List (List UInt8), x.map exT = x.flatMap strV := fun x => by
      induction x with
      | nil => rfl
      | cons a x ih => rw [List.map_cons, List.flatMap_cons, ih]; rfl
    (repeat' (first | (apply at_dst 38; refine WPL_frow (k := 0) (E := eStr) (t := 37) (l.map word) rfl rfl (hfl _) (List.length_map ..) ?_ (htot := (Nat.mul_one _).symm) (hc := by simp only [maxLen]; omega) (hby := by show l.length * 16 ≤ _; omega)) | refine WP_seq ?_ | refine WP_region ?_ | refine WPL_nil ?_ | (apply WPL_t; (first | exact WT_move rfl | exact WT_assign rfl | (apply g_bin; first | exact WT_lss rfl rfl)); exact rfl) | refine WP_ret ?_ | refine WP_exit ?_ | (apply WPL_op0; exact rfl; first | (apply g_callf; first | (refine WO_call Tryd.func37 rfl hjoin rfl ?_; rintro _ _ ⟨rfl, rfl⟩))) | (refine WP_cond rfl (fun hb => ?_) (fun hb => ?_) <;> (repeat (first | replace hb := dec_t hb | replace hb := dec_f hb)) <;> (try (exfalso; first | omega)))))
    all_goals (try (exfalso; omega))
    exact ⟨.inr rfl, ret2 rfl (.tmp rfl) (.tmp rfl) (List.nil_sublist _) ⟨rfl, rfl⟩⟩
end Go.Proofs.YtdpabdbeecbnmaaDoor

/- Chapter 03: the laws' own test: sane. -/
-- STRINGS
-- ROWS
-- PRUNEC
-- IFACE
-- GEFF
namespace Go.Lx
abbrev want : List TokD := [⟨1, [115, 117, 109], 0, 0⟩, ⟨2, [], 30, 4⟩, ⟨3, [59], 0, 6⟩]
theorem sane3_facts : lexA [115, 117, 109, 32, 51, 48, 59] = (want, 0, 0) ∧ lexA [48, 48, 55] = ([], 0, 30) ∧ (∃ big, lexA [49, 48, 57, 57, 53, 49, 49, 54, 50, 55, 55, 55, 54] = (big, 0, 0) ∧ ∃ h : big.length = 1, (big[0]'(by omega)).n = 1099511627776) ∧ lexA [97, 32, 36] = ([], 2, 30) ∧ lexA [] = ([], 0, 0) ∧ textA [⟨0, [], 0, 0⟩] = ([], 30) ∧
    (∃ a b, lexA [97, 32, 47, 47, 32, 98] = (a, 0, 0) ∧ lexA [97, 61, 49] = (b, 0, 0) ∧ (∃ h : a.length = 1, (a[0]'(by omega)).text = [97]) ∧ textA b = ([97, 32, 61, 32, 49], 0) ∧ sameL a b = false ∧ sameL a [⟨1, [97], 0, 9⟩] = true) :=
  ⟨by decide +kernel, by decide +kernel, ⟨[⟨2, [], 1099511627776, 0⟩], by decide +kernel, rfl, rfl⟩, by decide +kernel, by decide +kernel, by decide +kernel, [⟨1, [97], 0, 0⟩], [⟨1, [97], 0, 0⟩, ⟨3, [61], 0, 1⟩, ⟨2, [], 1, 2⟩], by decide +kernel, by decide +kernel, ⟨rfl, rfl⟩, by decide +kernel, by decide +kernel, by decide +kernel⟩
end Go.Lx
namespace Go.Proofs.YtdpabdbeecbnmaaDoor
open Go Go.RowKit Go.Kx Go.Fr Go.Lx
set_option maxHeartbeats 4000000 in
set_option maxRecDepth 100000 in
theorem sane3_any : FnC Tryd.prog 10 [] [Lab] (fun p loc => p = exB true ∧ loc = []) := by
  obtain ⟨e1, e2, ⟨big, e3, g1, g2⟩, e5, e7, e8, a, b, e4, e6, ⟨g3, g4⟩, e9, e10, e11⟩ := sane3_facts
  have h1 := lex3_any [115, 117, 109, 32, 51, 48, 59]
  rw [e1] at h1
  have h2 := lex3_any [48, 48, 55]
  rw [e2] at h2
  have h3 := lex3_any [49, 48, 57, 57, 53, 49, 49, 54, 50, 55, 55, 55, 54]
  rw [e3] at h3
  have h4 := lex3_any [97, 32, 47, 47, 32, 98]
  rw [e4] at h4
  have h5 := lex3_any [97, 32, 36]
  rw [e5] at h5
  have h6 := lex3_any [97, 61, 49]
  rw [e6] at h6
  have h7 := lex3_any []
  rw [e7] at h7
  have t1 := text3_any b
  rw [e9] at t1
  have t2 := text3_any [⟨0, [], 0, 0⟩]
  rw [e8] at t2
  have hq := r3equal_any want want
  rw [decide_eq_true rfl] at hq
  have n1 := name_any [66, 95, 49, 50]
  rw [show nameF [66, 95, 49, 50] = true by decide +kernel] at n1
  have n2 := name_any [95, 49, 50]
  rw [show nameF [95, 49, 50] = false by decide +kernel] at n2
  have s1 := same3_any a b
  rw [e10] at s1
  have s2 := same3_any a [⟨1, [97], 0, 9⟩]
  rw [e11] at s2
  clear e1 e2 e3 e4 e5 e6 e7 e8 e9 e10 e11
  refine FnC_enter Tryd.func10 rfl Tryd.ntmps10 rfl fun w0 F0 out => ?_
  (repeat' (first | (apply at_dst 4; refine WPL_frow (k := 0) (E := eTok) (t := 35) want rfl rfl rfl rfl ?_ (hc := by decide) (hby := by decide)) | (apply at_dst 74; refine WPL_frow (k := 0) (E := eTok) (t := 73) [⟨0, [], 0, 0⟩] rfl rfl rfl rfl ?_ (hc := by decide) (hby := by decide)) | (apply at_dst 176; refine WPL_frow (k := 0) (E := eTok) (t := 175) [⟨1, [97], 0, 9⟩] rfl rfl rfl rfl ?_ (hc := by decide) (hby := by decide)) | refine WP_seq ?_ | refine WP_region ?_ | refine WPL_nil ?_ | (apply WPL_t; (first | exact WT_move rfl | exact WT_assign rfl | exact WT_pick (b := true) rfl (fun _ => rfl) (fun e => by cases e) | exact WT_pick (b := false) rfl (fun e => by cases e) (fun _ => rfl) | exact WT_extract rfl rfl | (apply g_bin; first | exact WT_neq rfl rfl) | (apply g_build; first | exact WT_build2 rfl rfl (by repeat (first | exact PartsO.nil | (apply PartsO.cons; exact rfl; exact inferInstance; exact rfl; exact rfl))))); exact rfl) | (refine WPL_off rfl rfl rfl rfl rfl ?_) | (apply WPL_gt; exact rfl; exact rfl; exact rfl; (first | exact WT_move rfl | (apply g_load; first | exact WT_loadf rfl rfl) | (apply g_fld; first | exact WT_fieldf rfl rfl rfl) | (apply g_bin; first | exact WT_teq rfl rfl | exact WT_eql rfl rfl | exact WT_neq rfl rfl) | (apply g_index; first | exact WT_index rfl rfl rfl) | (apply g_call; first | exact WT_len rfl rfl) | (apply g_un; first | exact WT_not rfl) | (apply g_build; first | exact WT_build2 rfl rfl (by repeat (first | exact PartsO.nil | (apply PartsO.cons; exact rfl; exact inferInstance; exact rfl; exact rfl))))); exact rfl) | refine WP_skip ?_ | refine WP_ret ?_ | refine WP_cond_f rfl ?_ | (apply WPL_op0; exact rfl; first | (apply g_callf; first | (refine WO_callG (.dup 0 rfl rfl .nil) Tryd.func11 rfl h1 rfl ?_; rintro _ _ ⟨rfl, rfl⟩) | (refine WO_callG (.dup 0 rfl rfl .nil) Tryd.func11 rfl h2 rfl ?_; rintro _ _ ⟨rfl, rfl⟩) | (refine WO_callG (.dup 0 rfl rfl .nil) Tryd.func11 rfl h3 rfl ?_; rintro _ _ ⟨rfl, rfl⟩) | (refine WO_callG (.dup 0 rfl rfl .nil) Tryd.func11 rfl h4 rfl ?_; rintro _ _ ⟨rfl, rfl⟩) | (refine WO_callG (.dup 0 rfl rfl .nil) Tryd.func11 rfl h5 rfl ?_; rintro _ _ ⟨rfl, rfl⟩) | (refine WO_callG (.dup 0 rfl rfl .nil) Tryd.func11 rfl h6 rfl ?_; rintro _ _ ⟨rfl, rfl⟩) | (refine WO_callG (.dup 0 rfl rfl .nil) Tryd.func11 rfl h7 rfl ?_; rintro _ _ ⟨rfl, rfl⟩) | (refine WO_callG (.dup 0 rfl rfl .nil) Tryd.func15 rfl t1 rfl ?_; rintro _ _ ⟨rfl, rfl⟩) | (refine WO_callG (.dup 0 rfl rfl .nil) Tryd.func15 rfl t2 rfl ?_; rintro _ _ ⟨rfl, rfl⟩) | (refine WO_call Tryd.func13 rfl hq rfl ?_; rintro _ _ ⟨rfl, rfl⟩)) | (apply g_bslice; (first | refine WO_bslice1 rfl rfl ?_ | refine WO_bslice rfl (by repeat (first | exact PartsO.nil | (apply PartsO.cons; exact rfl; exact inferInstance; exact rfl; exact rfl))) ?_); intro _)) | (apply WPL_on0; exact rfl; exact rfl; exact rfl; exact rfl; first | (apply g_callf; first | (refine WO_call Tryd.func19 rfl n1 rfl ?_; rintro _ _ ⟨rfl, rfl⟩) | (refine WO_call Tryd.func19 rfl n2 rfl ?_; rintro _ _ ⟨rfl, rfl⟩) | (refine WO_call Tryd.func17 rfl s1 rfl ?_; rintro _ _ ⟨rfl, rfl⟩) | (refine WO_call Tryd.func17 rfl s2 rfl ?_; rintro _ _ ⟨rfl, rfl⟩)) | (apply g_bslice; (first | refine WO_bslice1 rfl rfl ?_); intro _)) | (refine WPL_case rfl rfl (fun hb => ?_) (fun hb => ?_) <;> (repeat (first | replace hb := dec_t hb | replace hb := dec_f hb)) <;> (try (exfalso; first | contradiction)))))
  all_goals (try (exfalso; first | contradiction | omega))
  all_goals first | exact ⟨.inr rfl, ret1 rfl (.tmp rfl) (List.nil_sublist _) ⟨rfl, rfl⟩⟩ | (exfalso; clear h1 h2 h3 h4 h5 h6 h7 t1 t2 hq n1 n2 s1 s2; simp_all; done)
end Go.Proofs.YtdpabdbeecbnmaaDoor

/- Chapter 03: the laws LexSpec, LexTextSpec, LexNames. -/
-- STRINGS
-- ROWS
-- PRUNEC
-- IFACE
-- GEFF
namespace Go.Proofs.YtdpabdbeecbnmaaDoor
open Go Go.RowKit Go.Kx Go.Fr Go.Lx
set_option maxHeartbeats 4000000 in
set_option maxRecDepth 100000 in
theorem lexSpec_any (s : List UInt8) : FnC Tryd.prog 3 [exT s] [Lab] (fun p loc => p = exB true ∧ loc = []) := by
  have hlx := lex3_any s
  have hrx := r3lex_any s
  generalize lexA s = z at hlx hrx
  obtain ⟨l, i, e⟩ := z
  unfold lexV at hlx hrx
  have hq := r3equal_any l l
  rw [decide_eq_true rfl] at hq
  refine FnC_enter Tryd.func3 rfl Tryd.ntmps3 rfl fun w0 F0 out => ?_
  (repeat' (first | refine WP_seq ?_ | refine WP_region ?_ | refine WPL_nil ?_ | (apply WPL_t; (first | exact WT_move rfl | exact WT_assign rfl | exact WT_pick (b := true) rfl (fun _ => rfl) (fun e => by cases e) | exact WT_extract rfl rfl | (apply g_bin; first | exact WT_gtr rfl rfl) | (apply g_call; first | exact WT_lent rfl rfl) | (apply g_un; first | exact WT_not rfl)); exact rfl) | (apply WPL_gt; exact rfl; exact rfl; exact rfl; (first | exact WT_move rfl | (apply g_bin; first | exact WT_eql rfl rfl)); exact rfl) | refine WP_skip ?_ | refine WP_ret ?_ | refine WP_cond_f rfl ?_ | (apply WPL_op0; exact rfl; first | (apply g_callf; first | (refine WO_callG (.dup 0 rfl rfl .nil) Tryd.func10 rfl sane3_any rfl ?_; rintro _ _ ⟨rfl, rfl⟩) | (refine WO_callG (.dup 0 rfl rfl .nil) Tryd.func11 rfl hlx rfl ?_; rintro _ _ ⟨rfl, rfl⟩) | (refine WO_call Tryd.func12 rfl hrx rfl ?_; rintro _ _ ⟨rfl, rfl⟩) | (refine WO_call Tryd.func13 rfl hq rfl ?_; rintro _ _ ⟨rfl, rfl⟩))) | (refine WPL_case rfl rfl (fun hb => ?_) (fun hb => ?_) <;> (repeat (first | replace hb := dec_t hb | replace hb := dec_f hb)) <;> (try (exfalso; first | contradiction))) | (refine WP_cond rfl (fun hb => ?_) (fun hb => ?_) <;> (repeat (first | replace hb := dec_t hb | replace hb := dec_f hb)) <;> (try (exfalso; first | fail)))))
  all_goals (try (exfalso; first | contradiction | omega))
  all_goals (refine ⟨.inr rfl, ret1 rfl (.tmp rfl) (List.nil_sublist _) ⟨congrArg exB ?_, rfl⟩⟩)
  all_goals (first | rfl | (simp; done))
set_option maxHeartbeats 4000000 in
set_option maxRecDepth 100000 in
theorem lexTextSpec_any (a b : List TokD) (s : List UInt8) : FnC Tryd.prog 4 [isl eTok a, isl eTok b, exT s] [Lab] (fun p loc => p = exB true ∧ loc = []) := by
  have hta := text3_any a
  have htr := r3text_any a
  generalize textA a = z at hta htr
  obtain ⟨t, e⟩ := z
  unfold textV at hta htr
  have hfa := r3few_any a
  have hfb := r3few_any b
  have hsab := same3_any a b
  have hsrb := r3same_any a b
  generalize sameL a b = sb at hsab hsrb
  have hsaa := same3_any a a
  rw [sameL_refl] at hsaa
  have hna := name_any s
  have hnr := r3name_any s
  generalize nameF s = nb at hna hnr
  refine FnC_enter Tryd.func4 rfl Tryd.ntmps4 rfl fun w0 F0 out => ?_
  (repeat' (first | refine WP_seq ?_ | refine WP_region ?_ | refine WPL_nil ?_ | (apply WPL_t; (first | exact WT_move rfl | exact WT_assign rfl | exact WT_pick (b := true) rfl (fun _ => rfl) (fun e => by cases e) | exact WT_pick (b := false) rfl (fun e => by cases e) (fun _ => rfl) | exact WT_extract rfl rfl | (apply g_bin; first | exact WT_teq rfl rfl) | (apply g_un; first | exact WT_not rfl)); exact rfl) | (refine WPL_off rfl rfl rfl rfl rfl ?_) | (apply WPL_gt; exact rfl; exact rfl; exact rfl; (first | exact WT_move rfl | (apply g_bin; first | exact WT_eql rfl rfl | exact WT_gtr rfl rfl | exact WT_beq rfl rfl rfl) | (apply g_call; first | exact WT_lent rfl rfl) | (apply g_un; first | exact WT_not rfl)); exact rfl) | refine WP_skip ?_ | refine WP_ret ?_ | refine WP_cond_t rfl ?_ | refine WP_cond_f rfl ?_ | (apply WPL_op0; exact rfl; first | (apply g_callf; first | (refine WO_callG (.dup 0 rfl rfl .nil) Tryd.func10 rfl sane3_any rfl ?_; rintro _ _ ⟨rfl, rfl⟩) | (refine WO_call Tryd.func14 rfl hfa rfl ?_; rintro _ _ ⟨⟨ba, rfl, hba⟩, rfl⟩; cases ba) | (refine WO_callG (.dup 0 rfl rfl .nil) Tryd.func15 rfl hta rfl ?_; rintro _ _ ⟨rfl, rfl⟩) | (refine WO_call Tryd.func16 rfl htr rfl ?_; rintro _ _ ⟨rfl, rfl⟩))) | (apply WPL_on0; exact rfl; exact rfl; exact rfl; exact rfl; first | (apply g_callf; first | (refine WO_call Tryd.func14 rfl hfb rfl ?_; rintro _ _ ⟨⟨bb, rfl, hbb⟩, rfl⟩; cases bb) | (refine WO_call Tryd.func17 rfl hsab rfl ?_; rintro _ _ ⟨rfl, rfl⟩) | (refine WO_call Tryd.func18 rfl hsrb rfl ?_; rintro _ _ ⟨rfl, rfl⟩) | (refine WO_call Tryd.func17 rfl hsaa rfl ?_; rintro _ _ ⟨rfl, rfl⟩) | (refine WO_call Tryd.func19 rfl hna rfl ?_; rintro _ _ ⟨rfl, rfl⟩) | (refine WO_call Tryd.func20 rfl hnr rfl ?_; rintro _ _ ⟨rfl, rfl⟩))) | (refine WPL_case rfl rfl (fun hb => ?_) (fun hb => ?_) <;> (repeat (first | replace hb := dec_t hb | replace hb := dec_f hb)) <;> (try (exfalso; first | contradiction))) | (refine WP_cond rfl (fun hb => ?_) (fun hb => ?_) <;> (repeat (first | replace hb := dec_t hb | replace hb := dec_f hb)) <;> (try (exfalso; first | fail)))))
  all_goals (try (exfalso; first | contradiction | omega))
  all_goals (refine ⟨.inr rfl, ret1 rfl (.tmp rfl) (List.nil_sublist _) ⟨congrArg exB ?_, rfl⟩⟩)
  all_goals (first | rfl | (simp; done))
theorem tok_is {t : TokD} {s : List UInt8} (h1 : t.kind = 1) (h2 : t.text = s) (h3 : t.at_ = 0) (h4 : t.n = 0) : t = ⟨1, s, 0, 0⟩ := by
  cases t; simp_all
theorem names_no {s : List UInt8} (h : nameB s = false) (hl : s.length ≤ 1000) : ∀ l i e, lexA s = (l, i, e) → ∀ (_ : e = 0) (h1 : ((l.length : Nat) : Int) = 1), (l[0]'(by omega)).kind = 1 → (l[0]'(by omega)).text = s → (l[0]'(by omega)).at_ = 0 → decide ((l[0]'(by omega)).n = 0) = false := by
  intro l i e he h0 h1 h2 h3 h4
  refine decide_eq_false fun h5 => ?_
  replace h1 : l.length = 1 := by omega
  rcases lexA_cases s (by omega) with ⟨l2, g1, g2⟩ | ⟨p, g1, g2⟩
  · rw [g2] at he
    injection he with a b
    subst a
    obtain ⟨t, rfl⟩ := List.length_eq_one_iff.1 h1
    rw [tok_is (t := t) h2 h3 h4 h5] at g1
    rw [(lex_name s).2 g1] at h
    cases h
  · rw [g2] at he
    injection he with a b
    injection b with c d
    rw [← d] at h0
    cases h0
theorem names_yes {s : List UInt8} (h : nameB s = true) (hl : s.length ≤ 1000) : lexA s = ([⟨1, s, 0, 0⟩], 0, 0) := by
  unfold lexA
  rw [if_neg (by omega), (lex_name s).1 h]
theorem names_text (s : List UInt8) : textA [⟨1, s, 0, 0⟩] = if nameB s then (s, 0) else ([], 30) := by
  have hv : validB ⟨1, s, 0, 0⟩ = nameB s := by unfold validB; rw [if_pos rfl, decide_eq_true rfl, Bool.and_true]
  unfold textA
  rw [show List.all [(⟨1, s, 0, 0⟩ : TokD)] validB = nameB s by rw [List.all_cons, List.all_nil, hv, Bool.and_true]]
  rfl
set_option maxHeartbeats 4000000 in
set_option maxRecDepth 100000 in
theorem lexNames_any (s : List UInt8) : FnC Tryd.prog 9 [exT s] [Lab] (fun p loc => p = exB true ∧ loc = []) := by
  have hlx := lex3_any s
  have htn := text3_any [⟨1, s, 0, 0⟩]
  rw [names_text] at htn
  have hna := name_any s
  rw [nameF_eq] at hna
  refine FnC_enter Tryd.func9 rfl Tryd.ntmps9 rfl fun w0 F0 out => ?_
  by_cases hl : s.length ≤ 1000
  · cases hn : nameB s
    · rw [hn] at hna htn
      have hno := names_no hn hl
      generalize lexA s = z at hlx hno
      obtain ⟨l, i, e⟩ := z
      replace hno := hno l i e rfl
      unfold lexV at hlx
      (repeat' (first | (apply at_dst 60; refine WPL_frow (k := 0) (E := eTok) (t := 59) [⟨1, s, 0, 0⟩] rfl rfl rfl rfl ?_ (hc := by decide) (hby := by decide)) | refine WP_seq ?_ | refine WP_region ?_ | refine WPL_nil ?_ | (apply WPL_t; (first | exact WT_move rfl | exact WT_assign rfl | exact WT_pick (b := true) rfl (fun _ => rfl) (fun e => by cases e) | exact WT_pick (b := false) rfl (fun e => by cases e) (fun _ => rfl) | exact WT_extract rfl rfl | (apply g_bin; first | exact WT_eql rfl rfl | exact WT_gtr rfl rfl | exact WT_beq rfl rfl rfl) | (apply g_call; first | exact WT_lent rfl rfl) | (apply g_un; first | exact WT_not rfl) | (apply g_build; first | exact WT_build2 rfl rfl (by repeat (first | exact PartsO.nil | (apply PartsO.cons; exact rfl; exact inferInstance; exact rfl; exact rfl))))); exact rfl) | (refine WPL_off rfl rfl rfl rfl rfl ?_) | (apply WPL_gt; exact rfl; exact rfl; exact rfl; (first | exact WT_move rfl | (apply g_load; first | exact WT_loadf rfl rfl) | (apply g_fld; first | exact WT_fieldf rfl rfl rfl) | (apply g_bin; first | exact WT_teq rfl rfl | exact WT_eql rfl rfl | exact WT_beq rfl rfl rfl) | (apply g_index; first | exact WT_index rfl rfl rfl) | (apply g_call; first | exact WT_len rfl rfl)); exact rfl) | refine WP_skip ?_ | refine WP_ret ?_ | refine WP_cond_f rfl ?_ | (apply WPL_op0; exact rfl; first | (apply g_callf; first | (refine WO_callG (.dup 0 rfl rfl .nil) Tryd.func10 rfl sane3_any rfl ?_; rintro _ _ ⟨rfl, rfl⟩) | (refine WO_callG (.dup 0 rfl rfl .nil) Tryd.func11 rfl hlx rfl ?_; rintro _ _ ⟨rfl, rfl⟩) | (refine WO_callG (.dup 0 rfl rfl .nil) Tryd.func15 rfl htn rfl ?_; rintro _ _ ⟨rfl, rfl⟩) | (refine WO_call Tryd.func19 rfl hna rfl ?_; rintro _ _ ⟨rfl, rfl⟩)) | (apply g_bslice; (first | refine WO_bslice1 rfl rfl ?_); intro _)) | (refine WPL_case rfl rfl (fun hb => ?_) (fun hb => ?_) <;> (repeat (first | replace hb := dec_t hb | replace hb := dec_f hb)) <;> (try (exfalso; first | fail))) | (refine WP_cond rfl (fun hb => ?_) (fun hb => ?_) <;> (repeat (first | replace hb := dec_t hb | replace hb := dec_f hb)) <;> (try (exfalso; first | omega)))))
      all_goals (try (exfalso; first | contradiction | omega))
      all_goals (refine ⟨.inr rfl, ret1 rfl (.tmp rfl) (List.nil_sublist _) ⟨congrArg exB ?_, rfl⟩⟩)
      all_goals (first | rfl | (simp; done) | (clear hlx htn hna hno; simp_all; done) | (exfalso; exact absurd (hno (by assumption) (by assumption) (by assumption) (by assumption) (by assumption)).symm (by assumption)))
    · rw [hn] at hna htn
      rw [names_yes hn hl] at hlx
      unfold lexV at hlx
      (repeat' (first | (apply at_dst 60; refine WPL_frow (k := 0) (E := eTok) (t := 59) [⟨1, s, 0, 0⟩] rfl rfl rfl rfl ?_ (hc := by decide) (hby := by decide)) | refine WP_seq ?_ | refine WP_region ?_ | refine WPL_nil ?_ | (apply WPL_t; (first | exact WT_move rfl | exact WT_assign rfl | exact WT_pick (b := true) rfl (fun _ => rfl) (fun e => by cases e) | exact WT_extract rfl rfl | (apply g_bin; first | exact WT_eql rfl rfl | exact WT_gtr rfl rfl | exact WT_beq rfl rfl rfl) | (apply g_call; first | exact WT_lent rfl rfl) | (apply g_un; first | exact WT_not rfl) | (apply g_build; first | exact WT_build2 rfl rfl (by repeat (first | exact PartsO.nil | (apply PartsO.cons; exact rfl; exact inferInstance; exact rfl; exact rfl))))); exact rfl) | (apply WPL_gt; exact rfl; exact rfl; exact rfl; (first | exact WT_move rfl | (apply g_load; first | exact WT_loadf rfl rfl) | (apply g_fld; first | exact WT_fieldf rfl rfl rfl) | (apply g_bin; first | exact WT_teq rfl rfl | exact WT_eql rfl rfl | exact WT_beq rfl rfl rfl) | (apply g_index; first | exact WT_index rfl rfl rfl) | (apply g_call; first | exact WT_len rfl rfl)); exact rfl) | refine WP_skip ?_ | refine WP_ret ?_ | refine WP_cond_f rfl ?_ | (apply WPL_op0; exact rfl; first | (apply g_callf; first | (refine WO_callG (.dup 0 rfl rfl .nil) Tryd.func10 rfl sane3_any rfl ?_; rintro _ _ ⟨rfl, rfl⟩) | (refine WO_callG (.dup 0 rfl rfl .nil) Tryd.func11 rfl hlx rfl ?_; rintro _ _ ⟨rfl, rfl⟩) | (refine WO_callG (.dup 0 rfl rfl .nil) Tryd.func15 rfl htn rfl ?_; rintro _ _ ⟨rfl, rfl⟩) | (refine WO_call Tryd.func19 rfl hna rfl ?_; rintro _ _ ⟨rfl, rfl⟩)) | (apply g_bslice; (first | refine WO_bslice1 rfl rfl ?_); intro _)) | (refine WPL_case rfl rfl (fun hb => ?_) (fun hb => ?_) <;> (repeat (first | replace hb := dec_t hb | replace hb := dec_f hb)) <;> (try (exfalso; first | contradiction))) | (refine WP_cond rfl (fun hb => ?_) (fun hb => ?_) <;> (repeat (first | replace hb := dec_t hb | replace hb := dec_f hb)) <;> (try (exfalso; first | omega)))))
      all_goals (try (exfalso; first | contradiction | omega))
      all_goals (refine ⟨.inr rfl, ret1 rfl (.tmp rfl) (List.nil_sublist _) ⟨congrArg exB ?_, rfl⟩⟩)
      all_goals (first | rfl | (simp; done) | (clear hlx htn hna; simp_all; done))
  · (repeat' (first | refine WP_seq ?_ | refine WP_region ?_ | refine WPL_nil ?_ | (apply WPL_t; (first | exact WT_move rfl | exact WT_assign rfl | (apply g_bin; first | exact WT_gtr rfl rfl) | (apply g_call; first | exact WT_lent rfl rfl) | (apply g_un; first | exact WT_not rfl)); exact rfl) | refine WP_skip ?_ | refine WP_ret ?_ | refine WP_cond_f rfl ?_ | (apply WPL_op0; exact rfl; first | (apply g_callf; first | (refine WO_callG (.dup 0 rfl rfl .nil) Tryd.func10 rfl sane3_any rfl ?_; rintro _ _ ⟨rfl, rfl⟩))) | (refine WP_cond rfl (fun hb => ?_) (fun hb => ?_) <;> (repeat (first | replace hb := dec_t hb | replace hb := dec_f hb)) <;> (try (exfalso; first | omega)))))
    all_goals (try (exfalso; first | contradiction | omega))
    all_goals exact ⟨.inr rfl, ret1 rfl (.tmp rfl) (List.nil_sublist _) ⟨rfl, rfl⟩⟩
end Go.Proofs.YtdpabdbeecbnmaaDoor
