/- Chapter 03: the law LexSpaces. -/
import Derived.Test.YtdpabdbeecbnmaaDoorPart6
-- STRINGS
-- ROWS
-- PRUNEC
-- IFACE
-- CATT
-- GEFF
namespace Go.Lx
def noLine (s : List UInt8) : List UInt8 := s.filter fun c => decide (c ≠ 10)
theorem noLine_in {s : List UInt8} : ∀ x ∈ noLine s, x ≠ 10 := fun x hx => of_decide_eq_true (List.mem_filter.1 hx).2
theorem noLine_len (s : List UInt8) : (noLine s).length ≤ s.length := List.length_filter_le ..
theorem noLine_succ {s : List UInt8} {i : Nat} (h : i < s.length) : noLine (s.take (i + 1)) = noLine (s.take i) ++ (if s[i] = 10 then [] else [s[i]]) := by
  unfold noLine
  rw [List.take_succ_eq_append_getElem h, List.filter_append]
  congr 1
  by_cases e : s[i] = 10
  · rw [if_pos e, List.filter_cons_of_neg (by simpa using e)]; rfl
  · rw [if_neg e, List.filter_cons_of_pos (by simpa using e)]; rfl
abbrev gapsL (w : List UInt8) : List (List UInt8) := [[32], [9], [10], [13, 10], [32, 32], ([47, 47] ++ w) ++ [10], [32, 47, 47, 32, 10], [10, 47, 47, 10]]
theorem gapsL_gap {w : List UInt8} (h : ∀ x ∈ w, x ≠ 10) : ∀ g ∈ gapsL w, Gap g := by
  have c10 : spaceB 10 = true := by decide
  have c32 : spaceB 32 = true := by decide
  have c9 : spaceB 9 = true := by decide
  have c13 : spaceB 13 = true := by decide
  intro g hg
  simp only [gapsL, List.mem_cons, List.not_mem_nil, or_false] at hg
  rcases hg with rfl | rfl | rfl | rfl | rfl | rfl | rfl | rfl
  · exact gap_space c32 gap_nil
  · exact gap_space c9 gap_nil
  · exact gap_space c10 gap_nil
  · exact gap_space c13 (gap_space c10 gap_nil)
  · exact gap_space c32 (gap_space c32 gap_nil)
  · exact gap_comment h gap_nil
  · exact gap_space c32 (gap_comment (w := [32]) (by decide) gap_nil)
  · exact gap_space c10 (gap_comment (w := []) (by decide) gap_nil)
theorem gapsL_len {w : List UInt8} (h : w.length ≤ 100) : ∀ g ∈ gapsL w, g.length ≤ 103 := by
  intro g hg
  simp only [gapsL, List.mem_cons, List.not_mem_nil, or_false] at hg
  rcases hg with rfl | rfl | rfl | rfl | rfl | rfl | rfl | rfl
  all_goals (simp only [List.length_append, List.length_cons, List.length_nil]; omega)
/-- The gap behind a token. -/
def gapsF (w u : List UInt8) (i : Nat) : List UInt8 := if h : i < u.length then (gapsL w)[u[i].toNat % 8]'(by show _ < 8; omega) else [32]
theorem gapsF_lt {w u : List UInt8} {i : Nat} (h : i < u.length) : gapsF w u i = (gapsL w)[u[i].toNat % 8]'(by show _ < 8; omega) := dif_pos h
theorem gapsF_ge {w u : List UInt8} {i : Nat} (h : ¬ i < u.length) : gapsF w u i = [32] := dif_neg h
theorem gapsF_gap {w u : List UInt8} (h : ∀ x ∈ w, x ≠ 10) (i : Nat) : Gap (gapsF w u i) := by
  by_cases h1 : i < u.length
  · rw [gapsF_lt h1]; exact gapsL_gap h _ (List.getElem_mem _)
  · rw [gapsF_ge h1]; exact gap_space (by decide) gap_nil
theorem gapsF_len {w u : List UInt8} (h : w.length ≤ 100) (i : Nat) : (gapsF w u i).length ≤ 103 := by
  by_cases h1 : i < u.length
  · rw [gapsF_lt h1]; exact gapsL_len h _ (List.getElem_mem _)
  · rw [gapsF_ge h1]; show 1 ≤ 103; omega
theorem lex_spaced0 {w u : List UInt8} {l : List TokD} (hw : ∀ x ∈ w, x ≠ 10) (hl : ∀ t ∈ l, validB t = true) (hlen : (10 :: spacedF (gapsF w u) 0 l).length ≤ 65536) : ∃ m, lexA (10 :: spacedF (gapsF w u) 0 l) = (m, 0, 0) ∧ sameL l m = true := by
  obtain ⟨m, h1, h2⟩ := lex_spaced (fun i => gapsF_gap (u := u) hw i) l 0 1 hl
  refine ⟨m, ?_, h2⟩
  unfold lexA
  rw [if_neg (by omega), lex_space (by decide), h1]
theorem text_one {t : TokD} (h : validB t = true) : textA [t] = (word t, 0) := textA_yes (l := [t]) fun x hx => by rw [List.mem_singleton.1 hx]; exact h
theorem text_one_no {t : TokD} (h : validB t = false) : textA [t] = ([], 30) := textA_no (l := [t]) (i := 0) (by simp) h
end Go.Lx
namespace Go.Proofs.YtdpabdbeecbnmaaDoor
open Go Go.RowKit Go.Kx Go.Fr Go.Lx
set_option maxHeartbeats 8000000 in
set_option maxRecDepth 100000 in
theorem lexSpaces_any (l : List TokD) (u note : List UInt8) : FnC Tryd.prog 7 [isl eTok l, isl eByte u, exT note] [Lab] (fun p loc => p = exB true ∧ loc = []) := by
  by_cases hl : l.length ≤ 200
  rotate_left
  · refine FnC_enter Tryd.func7 rfl Tryd.ntmps7 rfl fun w0 F0 out => ?_
    (repeat' (first | refine WP_seq ?_ | refine WP_region ?_ | refine WPL_nil ?_ | (apply WPL_t; (first | exact WT_move rfl | exact WT_assign rfl | exact WT_pick (b := true) rfl (fun _ => rfl) (fun e => by cases e) | (apply g_un; first | exact WT_not rfl)); exact rfl) | (refine WPL_off rfl rfl rfl rfl rfl ?_) | refine WP_skip ?_ | refine WP_ret ?_ | refine WP_cond_t rfl ?_ | refine WP_cond_f rfl ?_ | (apply WPL_op0; exact rfl; first | (apply g_callf; first | (refine WO_callG (.dup 0 rfl rfl .nil) Tryd.func10 rfl sane3_any rfl ?_; rintro _ _ ⟨rfl, rfl⟩) | (refine WO_call Tryd.func14 rfl (r3few_any l) rfl ?_; rintro _ _ ⟨⟨ba, rfl, hba⟩, rfl⟩; cases ba <;> (try (exfalso; have := hba rfl; omega)))))))
    all_goals (try (exfalso; first | contradiction | omega))
    all_goals exact ⟨.inr rfl, ret1 rfl (.tmp rfl) (List.nil_sublist _) ⟨rfl, rfl⟩⟩
  by_cases hn : note.length ≤ 100
  rotate_left
  · refine FnC_enter Tryd.func7 rfl Tryd.ntmps7 rfl fun w0 F0 out => ?_
    (repeat' (first | refine WP_seq ?_ | refine WP_region ?_ | refine WPL_nil ?_ | (apply WPL_t; (first | exact WT_move rfl | exact WT_assign rfl | exact WT_pick (b := true) rfl (fun _ => rfl) (fun e => by cases e) | exact WT_pick (b := false) rfl (fun e => by cases e) (fun _ => rfl) | (apply g_un; first | exact WT_not rfl)); exact rfl) | (refine WPL_off rfl rfl rfl rfl rfl ?_) | (apply WPL_gt; exact rfl; exact rfl; exact rfl; (first | exact WT_move rfl | (apply g_bin; first | exact WT_gtr rfl rfl) | (apply g_call; first | exact WT_lent rfl rfl)); exact rfl) | refine WP_skip ?_ | refine WP_ret ?_ | refine WP_cond_t rfl ?_ | refine WP_cond_f rfl ?_ | (apply WPL_op0; exact rfl; first | (apply g_callf; first | (refine WO_callG (.dup 0 rfl rfl .nil) Tryd.func10 rfl sane3_any rfl ?_; rintro _ _ ⟨rfl, rfl⟩) | (refine WO_call Tryd.func14 rfl (r3few_any l) rfl ?_; rintro _ _ ⟨⟨ba, rfl, hba⟩, rfl⟩; cases ba <;> (try (exfalso; have := hba rfl; omega))))) | (refine WP_cond rfl (fun hb => ?_) (fun hb => ?_) <;> (repeat (first | replace hb := dec_t hb | replace hb := dec_f hb)) <;> (try (exfalso; first | omega)))))
    all_goals (try (exfalso; first | contradiction | omega))
    all_goals exact ⟨.inr rfl, ret1 rfl (.tmp rfl) (List.nil_sublist _) ⟨rfl, rfl⟩⟩
  refine FnC_says (i := 1) rfl Says_isl fun hu => ?_
  obtain ⟨hu, -⟩ := hu
  simp only [maxLen] at hu
  refine FnC_enter Tryd.func7 rfl Tryd.ntmps7 rfl fun w0 F0 out => ?_
  (repeat' (first | refine WP_seq ?_ | refine WP_region ?_ | refine WPL_nil ?_ | (apply WPL_t; (first | exact WT_move rfl | exact WT_assign rfl | exact WT_pick (b := true) rfl (fun _ => rfl) (fun e => by cases e) | exact WT_pick (b := false) rfl (fun e => by cases e) (fun _ => rfl) | (apply g_un; first | exact WT_not rfl)); exact rfl) | (refine WPL_off rfl rfl rfl rfl rfl ?_) | (apply WPL_gt; exact rfl; exact rfl; exact rfl; (first | exact WT_move rfl | (apply g_bin; first | exact WT_gtr rfl rfl) | (apply g_call; first | exact WT_lent rfl rfl)); exact rfl) | refine WP_block ?_ | refine WP_skip ?_ | refine WP_ret ?_ | refine WP_cond_t rfl ?_ | refine WP_cond_f rfl ?_ | (apply WPL_op0; exact rfl; first | (apply g_callf; first | (refine WO_callG (.dup 0 rfl rfl .nil) Tryd.func10 rfl sane3_any rfl ?_; rintro _ _ ⟨rfl, rfl⟩) | (refine WO_call Tryd.func14 rfl (r3few_any l) rfl ?_; rintro _ _ ⟨⟨ba, rfl, hba⟩, rfl⟩; cases ba <;> (try (exfalso; have := hba rfl; omega))))) | (refine WP_cond rfl (fun hb => ?_) (fun hb => ?_) <;> (repeat (first | replace hb := dec_t hb | replace hb := dec_f hb)) <;> (try (exfalso; first | omega)))))
  all_goals (try (exfalso; first | contradiction | omega))
  all_goals (try (exact ⟨.inr rfl, ret1 rfl (.tmp rfl) (List.nil_sublist _) ⟨rfl, rfl⟩⟩))
  refine WP_loop (fun i : Nat => ([(0, isl eTok l), (1, isl eByte u), (2, exT note), (7, exT (noLine (note.take i))), (8, exI .i64 (i : Int))], [Lab])) (fun i => i ≤ note.length) (fun i => note.length - i) 0 ?_ (Nat.zero_le _) fun i hi => ?_
  · exact Leads_env (by repeat (first | exact sub_nil | refine sub_cons rfl ?_)) (List.Sublist.refl _)
  by_cases hlt : i < note.length
  · have hs := noLine_succ hlt
    have hwl := noLine_len (note.take i)
    rw [List.length_take] at hwl
    by_cases he : note[i] = 10
    · have hn10 : (note[i].toNat : Int) = 10 := by rw [he]; rfl
      rw [if_pos he, List.append_nil] at hs
      generalize noLine (note.take i) = wd at hs hwl
      (repeat' (first | refine WP_seq ?_ | refine WP_region ?_ | refine WPL_nil ?_ | (apply WPL_t; (first | exact WT_move rfl | exact WT_assign rfl | (apply g_bin; first | exact WT_lss rfl rfl | exact WT_neq rfl rfl | exact WT_add rfl rfl) | (apply g_call; first | exact WT_lent rfl rfl) | (apply g_idxt; first | exact WT_idxt rfl rfl rfl)); exact rfl) | refine WP_block ?_ | refine WP_skip ?_ | (refine WP_cond rfl (fun hb => ?_) (fun hb => ?_) <;> (repeat (first | replace hb := dec_t hb | replace hb := dec_f hb | replace hb := not_t hb | replace hb := not_f hb)) <;> (try (exfalso; first | contradiction | omega)))))
      all_goals (try (exfalso; first | contradiction | omega))
      exact ⟨i + 1, by show i + 1 ≤ _; omega, by show note.length - (i + 1) < note.length - i; omega, by simp only [hs]; exact Leads_env (by repeat (first | exact sub_nil | refine sub_cons rfl ?_)) (List.Sublist.refl _)⟩
    · have hn10 : ¬ (note[i].toNat : Int) = 10 := fun e => he (UInt8.toNat_inj.1 (by have : (10 : UInt8).toNat = 10 := rfl; omega))
      have hsub : (note.take (i + 1)).drop i = [note[i]] := by rw [List.take_succ_eq_append_getElem hlt, List.drop_append_of_le_length (by rw [List.length_take]; omega), List.drop_eq_nil_of_le (by rw [List.length_take]; omega)]; rfl
      rw [if_neg he] at hs
      generalize noLine (note.take i) = wd at hs hwl
      (repeat' (first | refine WP_seq ?_ | refine WP_region ?_ | refine WPL_nil ?_ | (apply WPL_t; (first | exact WT_move rfl | exact WT_assign rfl | (apply g_bin; first | exact WT_catT rfl rfl | exact WT_lss rfl rfl | exact WT_neq rfl rfl | exact WT_add rfl rfl) | (apply g_slice; first | exact WT_sslb rfl rfl rfl rfl) | (apply g_call; first | exact WT_lent rfl rfl) | (apply g_idxt; first | exact WT_idxt rfl rfl rfl)); exact rfl) | refine WP_block ?_ | refine WP_skip ?_ | (refine WP_cond rfl (fun hb => ?_) (fun hb => ?_) <;> (repeat (first | replace hb := dec_t hb | replace hb := dec_f hb | replace hb := not_t hb | replace hb := not_f hb)) <;> (try (exfalso; first | contradiction | omega)))))
      all_goals (try (exfalso; first | contradiction | omega))
      exact ⟨i + 1, by show i + 1 ≤ _; omega, by show note.length - (i + 1) < note.length - i; omega, by simp only [hs, ← hsub]; exact Leads_env (by repeat (first | exact sub_nil | refine sub_cons rfl ?_)) (List.Sublist.refl _)⟩
  rw [show i = note.length by omega, List.take_length]
  have hwin := noLine_in (s := note)
  have hwlen := noLine_len note
  generalize noLine note = w at hwin hwlen
  (repeat' (first | (apply at_dst 9; refine WPL_frow (k := 0) (E := eStr) (t := 51) (gapsL w) rfl rfl rfl rfl ?_ (hc := by decide) (hby := by decide)) | refine WP_seq ?_ | refine WP_region ?_ | refine WPL_nil ?_ | (apply WPL_t; (first | exact WT_move rfl | exact WT_assign rfl | (apply g_bin; first | exact WT_catT rfl rfl | exact WT_lss rfl rfl) | (apply g_call; first | exact WT_lent rfl rfl | exact WT_len rfl rfl)); exact rfl) | refine WP_block ?_ | refine WP_exit ?_ | (apply WPL_op0; exact rfl; first | (apply g_bslice; (first | refine WO_bslice rfl (by repeat (first | exact PartsO.nil | (apply PartsO.cons; exact rfl; exact inferInstance; exact rfl; exact rfl))) ?_); intro _)) | (refine WP_cond rfl (fun hb => ?_) (fun hb => ?_) <;> (repeat (first | replace hb := dec_t hb | replace hb := dec_f hb)) <;> (try (exfalso; first | omega)))))
  all_goals (try (exfalso; first | contradiction | omega))
  have hG : (gapsL w).length = 8 := rfl
  have hglen := gapsF_len (w := w) (u := u) (by omega)
  generalize hGe : gapsL w = G at hG
  refine WP_loop (fun x : Nat × List UInt8 => ([(0, isl eTok l), (1, isl eByte u), (9, isl eStr G), (10, exT x.2), (52, isl eTok l), (53, exI .i64 (l.length : Int)), (54, exI .i64 (x.1 : Int))], [Lab])) (fun x => x.1 ≤ l.length ∧ 10 :: spacedF (gapsF w u) 0 l = x.2 ++ spacedF (gapsF w u) x.1 (l.drop x.1) ∧ x.2.length ≤ 1 + 136 * x.1 ∧ ∀ t ∈ l.take x.1, validB t = true) (fun x => l.length - x.1) (0, [10]) ?_ ⟨Nat.zero_le _, rfl, Nat.le_refl _, fun t h => by cases h⟩ fun x hx => ?_
  · exact Leads_env (by repeat (first | exact sub_nil | refine sub_cons rfl ?_)) (List.Sublist.refl _)
  obtain ⟨k, s⟩ := x
  obtain ⟨hk, hinv, hsl, hpre⟩ := hx
  simp only at hk hinv hsl hpre ⊢
  by_cases hlt : k < l.length
  · have ht1 := text3_any [l[k]]
    cases hv : validB l[k]
    · rw [text_one_no hv] at ht1
      have htl := text3_any l
      rw [textA_no hlt hv] at htl
      unfold textV at ht1 htl
      dsimp only at ht1 htl
      clear hpre hinv
      (repeat' (first | (apply at_dst 62; refine WPL_frow (k := 0) (E := eTok) (t := 61) [l[k]] rfl rfl rfl rfl ?_ (hc := by decide) (hby := by decide)) | refine WP_seq ?_ | refine WP_region ?_ | refine WPL_nil ?_ | (apply WPL_t; (first | exact WT_move rfl | exact WT_assign rfl | exact WT_extract rfl rfl | (apply g_load; first | exact WT_loadfa rfl rfl | exact WT_loada2 (k := 0) rfl rfl rfl) | (apply g_bin; first | exact WT_lss rfl rfl | exact WT_eql rfl rfl | exact WT_neq rfl rfl) | (apply g_index; first | exact WT_index rfl rfl rfl)); exact rfl) | refine WP_block ?_ | refine WP_skip ?_ | refine WP_ret ?_ | refine WP_cond_t rfl ?_ | (apply WPL_op0; exact rfl; first | (apply g_callf; first | (refine WO_callG (.dup 1 rfl rfl .nil) Tryd.func15 rfl ht1 rfl ?_; rintro _ _ ⟨rfl, rfl⟩) | (refine WO_callG (.dup 1 rfl rfl .nil) Tryd.func15 rfl htl rfl ?_; rintro _ _ ⟨rfl, rfl⟩)) | (apply g_alloc; refine WO_alloc ?_; intro _) | (apply g_store; first | refine WO_store (k := 0) (l0 := []) rfl rfl rfl ?_) | (apply g_bslice; (first | refine WO_bslice1 rfl rfl ?_); intro _)) | (refine WP_cond rfl (fun hb => ?_) (fun hb => ?_) <;> (repeat (first | replace hb := dec_t hb | replace hb := dec_f hb)) <;> (try (exfalso; first | omega)))))
      all_goals (try (exfalso; first | contradiction | omega))
      exact ⟨.inr rfl, ret1 rfl (.tmp rfl) (List.nil_sublist _) ⟨rfl, rfl⟩⟩
    · rw [text_one hv] at ht1
      unfold textV at ht1
      dsimp only at ht1
      have hpre2 := pre_succ hlt hpre hv
      have hwd := word_len hv
      have hgl := hglen k
      rw [List.drop_eq_getElem_cons hlt, spacedF] at hinv
      generalize word l[k] = wd at ht1 hwd hinv
      clear hpre hv
      by_cases hku : k < u.length
      · rw [gapsF_lt hku] at hgl hinv
        have h8 : u[k].toNat % G.length < G.length := Nat.mod_lt _ (by omega)
        have hgv : (gapsL w)[u[k].toNat % 8]'(by show _ < 8; omega) = G[u[k].toNat % G.length] := by subst hGe; rfl
        rw [hgv] at hgl hinv
        (repeat' (first | (apply at_dst 62; refine WPL_frow (k := 0) (E := eTok) (t := 61) [l[k]] rfl rfl rfl rfl ?_ (hc := by decide) (hby := by decide)) | refine WP_seq ?_ | refine WP_region ?_ | refine WPL_nil ?_ | (apply WPL_t; (first | exact WT_move rfl | exact WT_assign rfl | exact WT_extract rfl rfl | (apply g_load; first | exact WT_loadf rfl rfl | exact WT_loadfa rfl rfl | exact WT_loada2 (k := 0) rfl rfl rfl) | (apply g_bin; first | exact WT_catT rfl rfl | exact WT_lss rfl rfl | exact WT_neq rfl rfl | exact WT_add rfl rfl | exact WT_rem rfl rfl) | (apply g_index; first | exact WT_index rfl rfl rfl) | (apply g_conv; first | exact WT_convb rfl rfl rfl) | (apply g_call; first | exact WT_len rfl rfl)); exact rfl) | refine WP_block ?_ | refine WP_skip ?_ | refine WP_cond_f rfl ?_ | (apply WPL_op0; exact rfl; first | (apply g_callf; first | (refine WO_callG (.dup 1 rfl rfl .nil) Tryd.func15 rfl ht1 rfl ?_; rintro _ _ ⟨rfl, rfl⟩)) | (apply g_alloc; refine WO_alloc ?_; intro _) | (apply g_store; first | refine WO_store (k := 0) (l0 := []) rfl rfl rfl ?_) | (apply g_bslice; (first | refine WO_bslice1 rfl rfl ?_); intro _)) | (refine WP_cond rfl (fun hb => ?_) (fun hb => ?_) <;> (repeat (first | replace hb := dec_t hb | replace hb := dec_f hb)) <;> (try (exfalso; first | omega)))))
        all_goals (try (exfalso; first | contradiction | omega))
        exact ⟨(k + 1, s ++ (wd ++ [32] ++ G[u[k].toNat % G.length])), ⟨by show k + 1 ≤ _; omega, by rw [hinv]; simp, by simp only [List.length_append, List.length_cons, List.length_nil]; omega, hpre2⟩, by show l.length - (k + 1) < l.length - k; omega, Leads_env (by repeat (first | exact sub_nil | refine sub_cons rfl ?_)) (by exact .cons _ (.refl _))⟩
      · rw [gapsF_ge hku] at hgl hinv
        (repeat' (first | (apply at_dst 62; refine WPL_frow (k := 0) (E := eTok) (t := 61) [l[k]] rfl rfl rfl rfl ?_ (hc := by decide) (hby := by decide)) | refine WP_seq ?_ | refine WP_region ?_ | refine WPL_nil ?_ | (apply WPL_t; (first | exact WT_move rfl | exact WT_assign rfl | exact WT_extract rfl rfl | (apply g_load; first | exact WT_loadfa rfl rfl | exact WT_loada2 (k := 0) rfl rfl rfl) | (apply g_bin; first | exact WT_catT rfl rfl | exact WT_lss rfl rfl | exact WT_neq rfl rfl | exact WT_add rfl rfl) | (apply g_index; first | exact WT_index rfl rfl rfl) | (apply g_call; first | exact WT_len rfl rfl)); exact rfl) | refine WP_block ?_ | refine WP_skip ?_ | refine WP_cond_f rfl ?_ | (apply WPL_op0; exact rfl; first | (apply g_callf; first | (refine WO_callG (.dup 1 rfl rfl .nil) Tryd.func15 rfl ht1 rfl ?_; rintro _ _ ⟨rfl, rfl⟩)) | (apply g_alloc; refine WO_alloc ?_; intro _) | (apply g_store; first | refine WO_store (k := 0) (l0 := []) rfl rfl rfl ?_) | (apply g_bslice; (first | refine WO_bslice1 rfl rfl ?_); intro _)) | (refine WP_cond rfl (fun hb => ?_) (fun hb => ?_) <;> (repeat (first | replace hb := dec_t hb | replace hb := dec_f hb)) <;> (try (exfalso; first | omega)))))
        all_goals (try (exfalso; first | contradiction | omega))
        exact ⟨(k + 1, s ++ (wd ++ [32] ++ [32])), ⟨by show k + 1 ≤ _; omega, by rw [hinv]; simp, by simp only [List.length_append, List.length_cons, List.length_nil]; omega, hpre2⟩, by show l.length - (k + 1) < l.length - k; omega, Leads_env (by repeat (first | exact sub_nil | refine sub_cons rfl ?_)) (by exact .cons _ (.refl _))⟩
  · rw [show k = l.length by omega, List.drop_length, spacedF, List.append_nil] at hinv
    rw [show k = l.length by omega, List.take_length] at hpre
    obtain ⟨m, e1, e2⟩ := lex_spaced0 (u := u) hwin hpre (by rw [hinv]; omega)
    rw [hinv] at e1
    have hls := lex3_any s
    rw [e1] at hls
    unfold lexV at hls
    dsimp only at hls
    have hsm := same3_any l m
    rw [e2] at hsm
    clear hpre hinv hwin e1 e2 hglen
    (repeat' (first | refine WP_seq ?_ | refine WP_region ?_ | refine WPL_nil ?_ | (apply WPL_t; (first | exact WT_move rfl | exact WT_assign rfl | exact WT_pick (b := true) rfl (fun _ => rfl) (fun e => by cases e) | exact WT_extract rfl rfl | (apply g_bin; first | exact WT_lss rfl rfl | exact WT_eql rfl rfl)); exact rfl) | (apply WPL_gt; exact rfl; exact rfl; exact rfl; (first | exact WT_move rfl | (apply g_bin; first | exact WT_eql rfl rfl)); exact rfl) | refine WP_ret ?_ | refine WP_exit ?_ | (apply WPL_op0; exact rfl; first | (apply g_callf; first | (refine WO_callG (.dup 0 rfl rfl .nil) Tryd.func11 rfl hls rfl ?_; rintro _ _ ⟨rfl, rfl⟩))) | (apply WPL_on0; exact rfl; exact rfl; exact rfl; exact rfl; first | (apply g_callf; first | (refine WO_call Tryd.func17 rfl hsm rfl ?_; rintro _ _ ⟨rfl, rfl⟩))) | (refine WP_cond rfl (fun hb => ?_) (fun hb => ?_) <;> (repeat (first | replace hb := dec_t hb | replace hb := dec_f hb)) <;> (try (exfalso; first | omega)))))
    all_goals (try (exfalso; first | contradiction | omega))
    exact ⟨.inr rfl, ret1 rfl (.tmp rfl) (List.nil_sublist _) ⟨rfl, rfl⟩⟩
end Go.Proofs.YtdpabdbeecbnmaaDoor
