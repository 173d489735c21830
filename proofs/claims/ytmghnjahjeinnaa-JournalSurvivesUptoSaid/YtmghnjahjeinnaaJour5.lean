/- The journal's Sync, where it goes on. -/
import Derived.Test.YtmghnjahjeinnaaJour4
namespace Go.Proofs.Ytmghnjahjeinnaa
open Go Go.RowKit Go.Kx Go.Fr
theorem usedN_nil : usedN [] = 0 := rfl
theorem usedN_split (o : List (List UInt8)) (s : Nat) : usedN (o.take s) + usedN (o.drop s) = usedN o := by
  unfold usedN
  rw [← List.sum_append, ← List.map_append, List.take_append_drop]
theorem usedN_take_le (o : List (List UInt8)) (s : Nat) : usedN (o.take s) ≤ usedN o := by rw [← usedN_split o s]; omega
theorem secsN_pos (n : Nat) : 1 ≤ secsN n := by unfold secsN; omega
theorem wsF_succ (g n a : Nat) (kind : UInt8) (b : List UInt8) : wsF g (n + 1) a kind b = ⟨a, encF g a (if n = 0 then UInt8.ofNat (kind.toNat ||| 2) else kind) (b.take 112)⟩ :: wsF g n (a + 1) 0 (b.drop 112) := rfl
theorem wsF_zero (g a : Nat) (kind : UInt8) (b : List UInt8) : wsF g 0 a kind b = [] := rfl
theorem allF_nil (g a : Nat) : allF g [] a = [] := rfl
theorem allF_cons (g a : Nat) (b : List UInt8) (r : List (List UInt8)) : allF g (b :: r) a = wsF g (secsN b.length) a 1 b ++ allF g r (a + secsN b.length) := rfl
theorem take_min (b : List UInt8) (k : Nat) : b.take (min b.length k) = b.take k := by
  rcases Nat.le_total b.length k with h | h
  · rw [Nat.min_eq_left h, List.take_of_length_le (Nat.le_refl _), List.take_of_length_le h]
  · rw [Nat.min_eq_right h]
theorem drop_min (b : List UInt8) (k : Nat) : b.drop (min b.length k) = b.drop k := by
  rcases Nat.le_total b.length k with h | h
  · rw [Nat.min_eq_left h, List.drop_of_length_le (Nat.le_refl _), List.drop_of_length_le h]
  · rw [Nat.min_eq_right h]
attribute [local irreducible] recordsR genF getF usedN allF wsF syncF encF secsN

theorem get4_lt (l : List UInt8) (h : l.length = 4) : getF l < 2 ^ 32 := by
  rw [getF_num l (by omega)]
  have := numN_lt l
  rw [h] at this
  simpa using this
/-- What the generation's loop keeps. -/
theorem genF_le (secs : List (List UInt8)) (h : ∀ s ∈ secs, s.length = 128) : 1 ≤ genF secs ∧ genF secs ≤ 2 ^ 32 := by
  have key : ∀ (l : List (List UInt8)) (n : Nat), (∀ s ∈ l, s.length = 128) → 1 ≤ n → n ≤ 2 ^ 32 → 1 ≤ l.foldl (fun n s => max (max n (getF (s.take 4) + 1)) (getF (s.drop 124) + 1)) n ∧ l.foldl (fun n s => max (max n (getF (s.take 4) + 1)) (getF (s.drop 124) + 1)) n ≤ 2 ^ 32 := by
    intro l
    induction l with
    | nil => exact fun n _ h1 h2 => ⟨h1, h2⟩
    | cons s r ih =>
      intro n hl h1 h2
      have hs := hl s List.mem_cons_self
      have e1 := get4_lt (s.take 4) (by rw [List.length_take]; omega)
      have e2 := get4_lt (s.drop 124) (by rw [List.length_drop]; omega)
      exact ih _ (fun x hx => hl x (List.mem_cons_of_mem _ hx)) (by dsimp only; omega) (by dsimp only; omega)
  unfold genF
  exact key secs 1 h (by omega) (by omega)

theorem jsyncF_good (o : List (List UInt8)) (s : Nat) (D : Disk) (hok : jOK o D.secs.length s) (dok : Disk.ok D = true) (hst : D.stopped = false) (hp : D.pend.length = 0) : jsyncF o D.secs.length s D =
    if recordsR D.secs ≠ o.take s ∨ 2 ^ 32 ≤ genF D.secs then ((([], 0, 0), zeroDisk), 50)
    else if s = o.length then (((o, (D.secs.length : Int), (s : Int)), D), 0)
    else if (syncF { D with pend := allF (genF D.secs) (o.drop s) (usedN (o.take s)) }).2 ≠ 0 then ((([], 0, 0), (syncF { D with pend := allF (genF D.secs) (o.drop s) (usedN (o.take s)) }).1), (syncF { D with pend := allF (genF D.secs) (o.drop s) (usedN (o.take s)) }).2)
    else (((o, (D.secs.length : Int), (o.length : Int)), (syncF { D with pend := allF (genF D.secs) (o.drop s) (usedN (o.take s)) }).1), 0) := by
  unfold jsyncF
  rw [if_neg (fun h => h hok), if_neg (by simp [dok]), if_neg (by simp [hst]), if_neg (by simp [hp]), Int.toNat_natCast]
  simp only [Int.natCast_inj]

theorem mx3 (a b c : Nat) (hb : b < 2 ^ 32) (hc : c < 2 ^ 32) : max (max (a : Int) (((b + 1) % 2 ^ IntKind.u64.bits : Nat) : Int)) (((c + 1) % 2 ^ IntKind.u64.bits : Nat) : Int) = ((max (max a (b + 1)) (c + 1) : Nat) : Int) := by
  have e : 2 ^ IntKind.u64.bits = 18446744073709551616 := rfl
  rw [e]; omega

set_option maxHeartbeats 4000000 in
set_option maxRecDepth 100000 in
theorem jsync_good (o : List (List UInt8)) (s : Nat) (D : Disk) (ho : o.length < 2 ^ 20) (hall : ∀ b ∈ o, b.length < 2 ^ 40) (hDI : DIn D) (hok : jOK o D.secs.length s) (dok : Disk.ok D = true) (hst : D.stopped = false) (hp : D.pend.length = 0) : FnC Try.prog 21 [jr o D.secs.length s, dsk D] [] (JPost (jsyncF o D.secs.length s D)) := by
  refine FnC_enter Try.func21 rfl Try.ntmps21 rfl fun w0 F0 out => ?_
  have hC := jcheck_any o D.secs.length s ho hall
  rw [show jchk o D.secs.length s = 0 from if_pos hok] at hC
  have hD := chk_fr D
  rw [show checkF D = 0 by unfold checkF; rw [if_pos dok]] at hD
  have hO := open_any D
  have eO : openF D = ((recordsR D.secs, (D.secs.length : Int), ((recordsR D.secs).length : Int)), 0) := by unfold openF; rw [if_pos dok, if_neg (by simp [hst]), if_pos hp]
  rw [eO] at hO
  obtain ⟨j1, j2, j3, j4, j5⟩ := id hok
  obtain ⟨k1, k2⟩ := ok_secs dok
  have hgl := genF_le D.secs k2
  (repeat' (first | refine WP_seq ?_ | refine WP_region ?_ | refine WPL_nil ?_ | (apply WPL_t; (first | exact WT_move rfl | exact WT_assign rfl | exact WT_pick (b := false) rfl (fun e => by cases e) (fun _ => rfl) | exact WT_extract rfl rfl | (apply g_load; first | exact WT_load (k := 2) rfl rfl rfl rfl | exact WT_load (k := 3) rfl rfl rfl rfl | exact WT_loada2 (k := 2) rfl rfl rfl | exact WT_loada2 (k := 3) rfl rfl rfl) | (apply g_fld; first | exact WT_field rfl rfl rfl) | (apply g_bin; first | exact WT_neq rfl rfl) | (apply g_call; first | exact WT_len rfl rfl)); exact rfl) | (refine WPL_off rfl rfl rfl rfl rfl ?_) | refine WP_block ?_ | refine WP_skip ?_ | refine WP_cond_f rfl ?_ | (apply WPL_op0; exact rfl; first | (apply g_callf; first | (refine WO_call Try.func17 rfl hC rfl ?_; rintro _ _ ⟨rfl, rfl⟩) | (refine WO_call Try.func31 rfl hD rfl ?_; rintro _ _ ⟨rfl, rfl⟩) | (refine WO_call Try.func12 rfl hO rfl ?_; rintro _ _ ⟨rfl, rfl⟩)) | (apply g_box; refine WO_box rfl ?_; intro _) | (apply g_alloc; refine WO_alloc ?_; intro _) | (apply g_store; first | refine WO_store (k := 0) (l0 := []) rfl rfl rfl ?_)) | (refine WPL_case rfl rfl (fun hb => ?_) (fun hb => ?_) <;> (repeat (first | replace hb := dec_t hb | replace hb := dec_f hb | replace hb := not_t hb | replace hb := not_f hb)) <;> (try (exfalso; first | omega)))))
  rename_i b2 b3 b4 b5 b9
  have hg0 : genF (D.secs.take 0) = 1 := by unfold genF; rfl
  refine WP_loop (fun k : Nat => ([(2, ex (.pointer (some ⟨b2, 0, none⟩))), (3, ex (.pointer (some ⟨b3, 0, none⟩))), (4, ex (.pointer (some ⟨b4, 0, none⟩))), (5, ex (.pointer (some ⟨b5, 0, none⟩))), (9, ex (.pointer (some ⟨b9, 0, none⟩))), (57, isl (eSl eByte) D.secs), (58, exI .i64 D.secs.length), (59, exI .i64 k), (10, exI .u64 (genF (D.secs.take k)))], [row b9 29 3 [isl (eSl eByte) (recordsR D.secs), exI .i64 D.secs.length, exI .i64 (recordsR D.secs).length], row b5 25 4 [ex (.slice none 0 0), ex (.slice none 0 0), exI .i64 0, exB false], row b4 29 3 [ex (.slice none 0 0), exI .i64 0, exI .i64 0], row b3 25 4 [isl (eSl eByte) D.secs, isl eWr D.pend, exI .i64 D.left, exB D.stopped], row b2 29 3 [isl (eSl eByte) o, exI .i64 D.secs.length, exI .i64 s]])) (fun k => k ≤ D.secs.length) (fun k => D.secs.length - k) 0 ?_ (by omega) fun k hk => ?_
  · dsimp only
    rw [hg0]
    exact Leads_env (by repeat (first | exact sub_nil | refine sub_cons rfl ?_)) (List.Sublist.refl _)
  have hgk := genF_le (D.secs.take k) (fun x hx => k2 x (List.mem_of_mem_take hx))
  (repeat' (first | refine WP_seq ?_ | refine WP_region ?_ | refine WPL_nil ?_ | (apply WPL_t; (first | exact WT_assign rfl | (apply g_load; first | exact WT_loadf rfl rfl) | (apply g_bin; first | exact WT_lss rfl rfl) | (apply g_index; first | exact WT_index rfl rfl rfl)); exact rfl) | refine WP_block ?_ | refine WP_skip ?_ | refine WP_exit ?_ | (refine WP_cond rfl (fun hb => ?_) (fun hb => ?_) <;> (repeat (first | replace hb := dec_t hb | replace hb := dec_f hb)) <;> (try (exfalso; first | fail)))))
  ·
    have hs1 : D.secs[k].length = 128 := k2 _ (List.getElem_mem _)
    have g1 := get4_lt (D.secs[k].take 4) (by rw [List.length_take]; omega)
    have g2 := get4_lt (D.secs[k].drop 124) (by rw [List.length_drop]; omega)
    have hsn := genF_snoc D.secs k (by omega)
    (refine WP_drawl 11 rfl ?_)
    all_goals ((apply WPY_pure 0 rfl (by decide +kernel) rfl (by repeat (first | exact np_ret)) guard_none; (first | exact WT_move rfl); exact rfl))
    all_goals ((apply WPY_pure 1 rfl (by decide +kernel) rfl (by repeat (first | exact np_ret)) guard_none; (first | exact WT_move rfl); exact rfl))
    all_goals ((apply WPY_pure 2 rfl (by decide +kernel) rfl (by repeat (first | exact np_ret)) guard_none; (first | (apply g_slice; first | exact WT_slch rfl rfl rfl)); exact rfl))
    all_goals ((apply WPY_pure 5 rfl (by decide +kernel) rfl (by repeat (first | exact np_ret)) guard_none; (first | exact WT_move rfl); exact rfl))
    all_goals ((apply WPY_pure 6 rfl (by decide +kernel) rfl (by repeat (first | exact np_ret)) guard_none; (first | (apply g_slice; first | exact WT_slcl rfl rfl rfl)); exact rfl))
    all_goals (first | (apply WPY_one 3; exact (by decide +kernel); exact rfl; exact guard_none; exact (fun _ _ h => h); first | (apply g_callf; first | (refine WO_call Try.func41 rfl (get_any _ (by simp only [List.length_take, List.length_drop]; omega)) rfl ?_; rintro _ _ ⟨rfl, rfl⟩))))
    all_goals ((apply WPY_pure 4 rfl (by decide +kernel) rfl (by repeat (first | exact np_ret)) guard_none; (first | (apply g_bin; first | exact WT_addu rfl rfl)); exact rfl))
    all_goals (first | (apply WPY_one 7; exact (by decide +kernel); exact rfl; exact guard_none; exact (fun _ _ h => h); first | (apply g_callf; first | (refine WO_call Try.func41 rfl (get_any _ (by simp only [List.length_take, List.length_drop]; omega)) rfl ?_; rintro _ _ ⟨rfl, rfl⟩))))
    all_goals ((apply WPY_pure 8 rfl (by decide +kernel) rfl (by repeat (first | exact np_ret)) guard_none; (first | (apply g_bin; first | exact WT_addu rfl rfl)); exact rfl))
    all_goals ((apply WPY_pure 9 rfl (by decide +kernel) rfl (by repeat (first | exact np_ret)) guard_none; (first | (apply g_call; first | exact WT_max3 rfl rfl rfl)); exact rfl))
    all_goals ((apply WPY_pure 10 rfl (by decide +kernel) rfl (by repeat (first | exact np_ret)) guard_none; (first | exact WT_assign rfl); exact rfl))
    all_goals (refine WPY_done (by decide +kernel) ?_)
    (repeat' (first | refine WP_region ?_ | refine WPL_nil ?_ | (apply WPL_t; (first | exact WT_move rfl | (apply g_bin; first | exact WT_add rfl rfl)); exact rfl)))
    refine ⟨k + 1, by omega, by omega, ?_⟩
    dsimp only
    rw [hsn, ← mx3 _ _ _ g1 g2]
    exact Leads_env (by repeat (first | exact sub_nil | refine sub_cons rfl ?_)) (List.Sublist.refl _)
  ·
    have hk9 : k = D.secs.length := by omega
    subst hk9
    rw [List.take_length]
    have hrl : (recordsR D.secs).length < 2 ^ 62 := by
      rw [recordsR_pairs, List.length_map]
      have := pairsR_len D.secs (D.secs.length + 1) 0 0
      unfold pairsF; omega
    have hE := equalF_any (recordsR D.secs) (o.take s) hrl
    have eJ := jsyncF_good o s D hok dok hst hp
    (refine WP_drawl 14 rfl ?_)
    all_goals ((apply WPY_pure 0 rfl (by decide +kernel) rfl (by repeat (first | exact np_ret)) guard_none; (first | (apply g_fld; first | exact WT_field rfl rfl rfl)); exact rfl))
    all_goals ((apply WPY_take 1 rfl (by decide +kernel) rfl (by decide +kernel) (by repeat (first | exact np_ret)) guard_none; (first | (apply g_load; first | exact WT_load (k := 0) rfl rfl rfl rfl)); exact rfl))
    all_goals ((apply WPY_pure 2 rfl (by decide +kernel) rfl (by repeat (first | exact np_ret)) guard_none; (first | (apply g_fld; first | exact WT_field rfl rfl rfl)); exact rfl))
    all_goals ((apply WPY_take 3 rfl (by decide +kernel) rfl (by decide +kernel) (by repeat (first | exact np_ret)) guard_none; (first | (apply g_load; first | exact WT_load (k := 4) rfl rfl rfl rfl)); exact rfl))
    all_goals ((apply WPY_pure 4 rfl (by decide +kernel) rfl (by repeat (first | exact np_ret)) guard_none; (first | (apply g_fld; first | exact WT_field rfl rfl rfl)); exact rfl))
    all_goals ((apply WPY_take 5 rfl (by decide +kernel) rfl (by decide +kernel) (by repeat (first | exact np_ret)) guard_none; (first | (apply g_load; first | exact WT_load (k := 4) rfl rfl rfl rfl)); exact rfl))
    all_goals ((apply WPY_pure 6 rfl (by decide +kernel) rfl (by repeat (first | exact np_ret)) guard_none; (first | (apply g_slice; first | exact WT_slch rfl rfl rfl)); exact rfl))
    all_goals (first | (apply WPY_one 7; exact (by decide +kernel); exact rfl; exact guard_none; exact (fun _ _ h => h); first | (apply g_callf; first | (refine WO_call Try.func42 rfl hE rfl ?_; rintro _ _ ⟨rfl, rfl⟩))))
    all_goals ((apply WPY_pure 8 rfl (by decide +kernel) rfl (by repeat (first | exact np_ret)) guard_none; (first | (apply g_un; first | exact WT_not rfl)); exact rfl))
    all_goals ((apply WPY_pure 9 rfl (by decide +kernel) rfl (by repeat (first | exact np_ret)) guard_none; (first | exact WT_move rfl); exact rfl))
    all_goals (first | (refine WPY_case 83 rfl (fun hb => ?_) (fun hb => ?_) <;> (repeat (first | replace hb := dec_t hb | replace hb := dec_f hb | replace hb := not_t hb | replace hb := not_f hb)) <;> (try (exfalso; first | (cases hb; done) | omega))) | skip)
    all_goals (first | (refine WPY_off 10 rfl (by decide +kernel) rfl (by repeat (first | exact np_ret)) rfl rfl rfl rfl rfl ?_) | (apply WPY_pure 10 rfl (by decide +kernel) rfl (by repeat (first | exact np_ret)) (guard_some rfl rfl rfl); (first | exact WT_move rfl); exact rfl))
    all_goals (first | (refine WPY_off 11 rfl (by decide +kernel) rfl (by repeat (first | exact np_ret)) rfl rfl rfl rfl rfl ?_) | (apply WPY_pure 11 rfl (by decide +kernel) rfl (by repeat (first | exact np_ret)) (guard_some rfl rfl rfl); (first | (apply g_bin; first | exact WT_shr rfl rfl)); exact rfl))
    all_goals (first | (refine WPY_off 12 rfl (by decide +kernel) rfl (by repeat (first | exact np_ret)) rfl rfl rfl rfl rfl ?_) | (apply WPY_pure 12 rfl (by decide +kernel) rfl (by repeat (first | exact np_ret)) (guard_some rfl rfl rfl); (first | (apply g_bin; first | exact WT_neq rfl rfl)); exact rfl))
    all_goals ((apply WPY_pure 13 rfl (by decide +kernel) rfl (by repeat (first | exact np_ret)) guard_none; (first | exact WT_pick (b := true) rfl (fun _ => rfl) (fun e => by cases e) | exact WT_pick (b := false) rfl (fun e => by cases e) (fun _ => rfl)); exact rfl))
    all_goals (refine WPY_done (by decide +kernel) ?_)
    (repeat' (first | refine WP_seq ?_ | refine WP_region ?_ | refine WPL_nil ?_ | (apply WPL_t; (first | exact WT_assign rfl | (apply g_load; first | exact WT_load (k := 4) rfl rfl rfl rfl) | (apply g_fld; first | exact WT_field rfl rfl rfl) | (apply g_bin; first | exact WT_eql rfl rfl) | (apply g_slice; first | exact WT_slch rfl rfl rfl) | (apply g_call; first | exact WT_len rfl rfl) | (apply g_build; first | exact WT_build2 rfl rfl (by repeat (first | exact PartsO.nil)))); exact rfl) | refine WP_skip ?_ | refine WP_ret ?_ | refine WP_cond_t rfl ?_ | (apply WPL_op0; exact rfl; first | (apply g_store; first | refine WO_store (k := 1) (l0 := []) rfl rfl rfl ?_ | refine WO_store (k := 2) (l0 := []) rfl rfl rfl ?_)) | (refine WP_cond rfl (fun hb => ?_) (fun hb => ?_) <;> (repeat (first | replace hb := dec_t hb | replace hb := dec_f hb | replace hb := not_t hb | replace hb := not_f hb)) <;> (try (exfalso; first | fail)))))
    · rw [if_pos (.inl (by assumption))] at eJ
      rw [eJ]
      (refine ⟨.inr rfl, retw (loc' := []) (by first | exact ret3 rfl (.cella (k := 1) rfl rfl rfl rfl inferInstance rfl) (.cella (k := 0) rfl rfl rfl rfl inferInstance rfl) (.tmp rfl) (List.nil_sublist _) ⟨rfl, rfl⟩ | exact ret3 rfl (.cella (k := 2) rfl rfl rfl rfl inferInstance rfl) (.cella (k := 1) rfl rfl rfl rfl inferInstance rfl) (.tmp rfl) (List.nil_sublist _) ⟨rfl, rfl⟩) ?_ ⟨rfl, rfl⟩⟩)
      exact im_sz _
    · rw [if_pos (.inr (by omega))] at eJ
      rw [eJ]
      (refine ⟨.inr rfl, retw (loc' := []) (by first | exact ret3 rfl (.cella (k := 1) rfl rfl rfl rfl inferInstance rfl) (.cella (k := 0) rfl rfl rfl rfl inferInstance rfl) (.tmp rfl) (List.nil_sublist _) ⟨rfl, rfl⟩ | exact ret3 rfl (.cella (k := 2) rfl rfl rfl rfl inferInstance rfl) (.cella (k := 1) rfl rfl rfl rfl inferInstance rfl) (.tmp rfl) (List.nil_sublist _) ⟨rfl, rfl⟩) ?_ ⟨rfl, rfl⟩⟩)
      exact im_sz _
    ·
      rw [if_neg (fun h => h.elim (fun h => h (by assumption)) (fun h => absurd h (by omega)))] at eJ
      rw [if_pos (by omega)] at eJ
      rw [eJ]
      (refine WP_drawl 2 rfl ?_)
      all_goals ((apply WPY_take 0 rfl (by decide +kernel) rfl (by decide +kernel) (by repeat (first | exact np_ret)) guard_none; (first | (apply g_load; first | exact WT_loada2 (k := 4) rfl rfl rfl)); exact rfl))
      all_goals (refine WPY_two (H2 := feet []) 1 2 (by decide +kernel) rfl guard_none (fun _ _ _ => trivial) rfl guard_none (fun h => absurd h (by decide)) ?_ ?_; (apply WO_t (H := fun _ => True); (first | (apply g_load; first | exact WT_loada2 (k := 3) rfl rfl rfl)); exact rfl); (apply WPY_one 2; exact (by decide +kernel); exact rfl; exact guard_none; exact (fun h => absurd h (by decide)); (first | (apply g_store; first | refine WO_store (k := 2) (l0 := []) rfl rfl rfl ?_))); rotate_left; (first | (apply g_store; first | refine WO_store (k := 2) (l0 := []) rfl rfl rfl ?_)); (apply WPY_one 1; exact (by decide +kernel); exact rfl; exact guard_none; exact (fun _ _ _ => trivial); (apply WO_t (H := fun _ => True); (first | (apply g_load; first | exact WT_loada2 (k := 3) rfl rfl rfl)); exact rfl)))
      all_goals (first | (apply WPY_one 3; exact (by decide +kernel); exact rfl; exact guard_none; exact (fun h => absurd h (by decide)); first | (apply g_store; first | refine WO_store (k := 1) (l0 := []) rfl rfl rfl ?_)))
      all_goals (first | (apply WPY_one 4 (by decide +kernel) rfl guard_none (fun _ _ _ => trivial); apply WO_t (H := fun _ => True); (first | exact WT_assign rfl); exact rfl))
      all_goals (refine WPY_done (by decide +kernel) ?_)
      all_goals ((repeat' (first | refine WP_ret ?_)))
      all_goals ((refine ⟨.inr rfl, retw (loc' := []) (by first | exact ret3 rfl (.cella (k := 1) rfl rfl rfl rfl inferInstance rfl) (.cella (k := 0) rfl rfl rfl rfl inferInstance rfl) (.tmp rfl) (List.nil_sublist _) ⟨rfl, rfl⟩ | exact ret3 rfl (.cella (k := 2) rfl rfl rfl rfl inferInstance rfl) (.cella (k := 1) rfl rfl rfl rfl inferInstance rfl) (.tmp rfl) (List.nil_sublist _) ⟨rfl, rfl⟩) ?_ ⟨rfl, rfl⟩⟩))
      all_goals exact .refl _
    · rw [if_neg (fun h => h.elim (fun h => h (by assumption)) (fun h => absurd h (by omega)))] at eJ
      rw [if_neg (by omega)] at eJ
      rw [eJ]
      have hU := used_any (o.take s) (by rw [List.length_take]; omega) (fun b hb => hall b (List.mem_of_mem_take hb))
      (repeat' (first | refine WP_seq ?_ | refine WP_region ?_ | refine WPL_nil ?_ | (apply WPL_t; (first | exact WT_move rfl | exact WT_assign rfl | (apply g_load; first | exact WT_load (k := 4) rfl rfl rfl rfl) | (apply g_fld; first | exact WT_field rfl rfl rfl) | (apply g_slice; first | exact WT_slcl rfl rfl rfl) | (apply g_call; first | exact WT_len rfl rfl)); exact rfl) | refine WP_block ?_ | (apply WPL_op0; exact rfl; first | (apply g_callf; first | (refine WO_call Try.func36 rfl hU rfl ?_; rintro _ _ ⟨rfl, rfl⟩)))))
      have hpe : D.pend = [] := List.eq_nil_of_length_eq_zero hp
      obtain ⟨rest, hrest⟩ : ∃ r, r = o.drop s := ⟨_, rfl⟩
      have hallr : ∀ b ∈ rest, b.length < 2 ^ 40 := fun b hb => hall b (List.mem_of_mem_drop (hrest ▸ hb))
      have hus : usedN (o.take s) + usedN rest = usedN o := by rw [hrest]; exact usedN_split o s
      have hrl2 : rest.length < 2 ^ 20 := by rw [hrest, List.length_drop]; omega
      have dok0 : Disk.ok { D with pend := [] } = true := by rw [← hpe]; exact dok
      have hsl := (Disk.ok_out dok).2.1
      clear hU hE hO hC hD
      generalize usedN (o.take s) = at0 at *
      rw [← hrest, hpe]
      refine WP_loop (fun x : Nat × Nat × List Wr => ([(2, ex (.pointer (some ⟨b2, 0, none⟩))), (3, ex (.pointer (some ⟨b3, 0, none⟩))), (4, ex (.pointer (some ⟨b4, 0, none⟩))), (5, ex (.pointer (some ⟨b5, 0, none⟩))), (10, exI .u64 (genF D.secs)), (13, exI .i64 x.2.1), (108, isl (eSl eByte) rest), (109, exI .i64 rest.length), (110, exI .i64 x.1)], [row b9 29 3 [isl (eSl eByte) (recordsR D.secs), exI .i64 D.secs.length, exI .i64 (recordsR D.secs).length], row b5 25 4 [ex (.slice none 0 0), ex (.slice none 0 0), exI .i64 0, exB false], row b4 29 3 [ex (.slice none 0 0), exI .i64 0, exI .i64 0], row b3 25 4 [isl (eSl eByte) D.secs, isl eWr x.2.2, exI .i64 D.left, exB D.stopped], row b2 29 3 [isl (eSl eByte) o, exI .i64 D.secs.length, exI .i64 s]])) (fun x => x.1 ≤ rest.length ∧ x.2.1 = at0 + usedN (rest.take x.1) ∧ x.2.2 ++ allF (genF D.secs) (rest.drop x.1) x.2.1 = allF (genF D.secs) rest at0 ∧ Disk.ok { D with pend := x.2.2 } = true ∧ x.2.2.length = usedN (rest.take x.1)) (fun x => rest.length - x.1) (0, at0, []) ?_ ⟨Nat.zero_le _, by dsimp only; rw [List.take_zero, usedN_nil]; rfl, rfl, dok0, by dsimp only; rw [List.take_zero, usedN_nil]; rfl⟩ fun x hx => ?_
      · exact Leads_env (by repeat (first | exact sub_nil | refine sub_cons rfl ?_)) (List.Sublist.refl _)
      obtain ⟨j, at1, ws⟩ := x
      obtain ⟨hj, hat1, hws, hwok, hwl⟩ := hx
      dsimp only at hj hat1 hws hwok hwl ⊢
      (repeat' (first | refine WP_seq ?_ | refine WP_region ?_ | refine WPL_nil ?_ | (apply WPL_t; (first | exact WT_move rfl | exact WT_assign rfl | (apply g_load; first | exact WT_loadf rfl rfl | exact WT_loada2 (k := 3) rfl rfl rfl) | (apply g_bin; first | exact WT_lss rfl rfl) | (apply g_index; first | exact WT_index rfl rfl rfl)); exact rfl) | refine WP_block ?_ | refine WP_skip ?_ | refine WP_exit ?_ | (refine WP_cond rfl (fun hb => ?_) (fun hb => ?_) <;> (repeat (first | replace hb := dec_t hb | replace hb := dec_f hb)) <;> (try (exfalso; first | fail)))))
      · have hjl : j < rest.length := by omega
        have hb0 := hallr _ (List.getElem_mem hjl)
        have hS := sectors_any rest[j] (by omega)
        have hN := secsN_pos rest[j].length
        have hut := usedN_take rest j hjl
        have hule := usedN_take_le rest (j + 1)
        have hdr : rest.drop j = rest[j] :: rest.drop (j + 1) := List.drop_eq_getElem_cons hjl
        (repeat' (first | refine WPL_nil ?_ | (apply WPL_t; (first | exact WT_assign rfl); exact rfl) | refine WP_block ?_ | (apply WPL_op0; exact rfl; first | (apply g_callf; first | (refine WO_call Try.func35 rfl hS rfl ?_; rintro _ _ ⟨rfl, rfl⟩)))))
        rw [hdr, allF_cons] at hws
        generalize rest[j] = b0 at *
        refine WP_loop (fun x : Nat × List UInt8 × UInt8 × Nat × List Wr => ([(2, ex (.pointer (some ⟨b2, 0, none⟩))), (3, ex (.pointer (some ⟨b3, 0, none⟩))), (4, ex (.pointer (some ⟨b4, 0, none⟩))), (5, ex (.pointer (some ⟨b5, 0, none⟩))), (10, exI .u64 (genF D.secs)), (13, exI .i64 x.2.2.2.1), (108, isl (eSl eByte) rest), (109, exI .i64 rest.length), (110, exI .i64 j), (15, isl eByte x.2.1), (16, exI .u8 x.2.2.1.toNat), (17, exI .i64 x.1)], [row b9 29 3 [isl (eSl eByte) (recordsR D.secs), exI .i64 D.secs.length, exI .i64 (recordsR D.secs).length], row b5 25 4 [ex (.slice none 0 0), ex (.slice none 0 0), exI .i64 0, exB false], row b4 29 3 [ex (.slice none 0 0), exI .i64 0, exI .i64 0], row b3 25 4 [isl (eSl eByte) D.secs, isl eWr x.2.2.2.2, exI .i64 D.left, exB D.stopped], row b2 29 3 [isl (eSl eByte) o, exI .i64 D.secs.length, exI .i64 s]])) (fun x => x.1 ≤ secsN b0.length ∧ x.2.2.2.1 + x.1 = at1 + secsN b0.length ∧ (x.2.2.1 = 1 ∨ x.2.2.1 = 0) ∧ x.2.2.2.2 ++ wsF (genF D.secs) x.1 x.2.2.2.1 x.2.2.1 x.2.1 = ws ++ wsF (genF D.secs) (secsN b0.length) at1 1 b0 ∧ Disk.ok { D with pend := x.2.2.2.2 } = true ∧ x.2.2.2.2.length + x.1 = ws.length + secsN b0.length ∧ x.2.1.length < 2 ^ 40) (fun x => x.1) (secsN b0.length, b0, 1, at1, ws) ?_ ⟨Nat.le_refl _, rfl, .inl rfl, rfl, hwok, rfl, hb0⟩ fun x hx => ?_
        · exact Leads_env (by repeat (first | exact sub_nil | refine sub_cons rfl ?_)) (List.Sublist.refl _)
        obtain ⟨n, b, kind, at2, ws2⟩ := x
        obtain ⟨x1, x2, x3, x4, x5, x6, x7⟩ := hx
        dsimp only at x1 x2 x3 x4 x5 x6 x7 ⊢
        cases n with
        | zero =>
          rw [wsF_zero, List.append_nil] at x4
          (repeat' (first | refine WP_seq ?_ | refine WP_region ?_ | refine WPL_nil ?_ | (apply WPL_t; (first | exact WT_move rfl | (apply g_bin; first | exact WT_gtr rfl rfl | exact WT_add rfl rfl)); exact rfl) | refine WP_exit ?_ | refine WP_cond_f rfl ?_))
          refine ⟨(j + 1, at2, ws2), ⟨by dsimp only; omega, by dsimp only; omega, ?_, x5, by dsimp only; omega⟩, by dsimp only; omega, Leads_env (by repeat (first | exact sub_nil | refine sub_cons rfl ?_)) (List.Sublist.refl _)⟩
          dsimp only
          rw [x4, show at2 = at1 + secsN b0.length by omega, List.append_assoc]
          exact hws
        | succ n =>
          rw [wsF_succ] at x4
          have hmin := take_min b 112
          have hdmin := drop_min b 112
          have hlm : (b.take (min b.length 112)).length ≤ 112 := by rw [List.length_take]; omega
          have hat2 : at2 < D.secs.length := by omega
          have hEnc : ∀ kd : UInt8, FnC Try.prog 44 [exI .u64 (genF D.secs), exI .i64 at2, exI .u8 kd.toNat, isl eByte (b.take (min b.length 112))] [] (fun p loc => p = isl eByte (encF (genF D.secs) at2 kd (b.take (min b.length 112))) ∧ loc = []) := fun kd => encode_any _ _ kd _ hlm (by omega) (by omega)
          have hone : ∀ kd : UInt8, writeF { D with pend := ws2 } at2 (encF (genF D.secs) at2 kd (b.take (min b.length 112))) = ({ D with pend := ws2 ++ [⟨at2, encF (genF D.secs) at2 kd (b.take (min b.length 112))⟩] }, 0) ∧ Disk.ok { D with pend := ws2 ++ [⟨at2, encF (genF D.secs) at2 kd (b.take (min b.length 112))⟩] } = true := fun kd => write_ok1 (D := { D with pend := ws2 }) x5 hst hat2 (encF_length _ _ _ _ hlm) (by show ws2.length < 4096; omega)
          have hWr : ∀ kd : UInt8, FnC Try.prog 26 [dsk { D with pend := ws2 }, exI .i64 at2, isl eByte (encF (genF D.secs) at2 kd (b.take (min b.length 112)))] [] (fun p loc => p = tup [dsk { D with pend := ws2 ++ [⟨at2, encF (genF D.secs) at2 kd (b.take (min b.length 112))⟩] }, exI .i64 0] ∧ loc = []) := fun kd => by
            have h := write_fr { D with pend := ws2 } at2 (encF (genF D.secs) at2 kd (b.take (min b.length 112))) hDI (by omega)
            rw [(hone kd).1] at h
            exact h
          rcases x3 with rfl | rfl <;> by_cases hn0 : n = 0
          ·
            rw [if_pos hn0] at x4
            (repeat' (first | refine WP_seq ?_ | refine WP_region ?_ | refine WPL_nil ?_ | (apply WPL_t; (first | exact WT_move rfl | exact WT_assign rfl | (apply g_bin; first | exact WT_eql rfl rfl | exact WT_gtr rfl rfl | exact WT_or rfl rfl) | (apply g_call; first | exact WT_min rfl rfl | exact WT_len rfl rfl)); exact rfl) | refine WP_block ?_ | refine WP_skip ?_ | (refine WP_cond rfl (fun hb => ?_) (fun hb => ?_) <;> (repeat (first | replace hb := dec_t hb | replace hb := dec_f hb)) <;> (try (exfalso; first | omega)))))
            (refine WP_drawl 13 rfl ?_)
            all_goals ((apply WPY_take 0 rfl (by decide +kernel) rfl (by decide +kernel) (by repeat (first | exact np_ret)) guard_none; (first | (apply g_load; first | exact WT_loada2 (k := 3) rfl rfl rfl)); exact rfl))
            all_goals ((apply WPY_pure 1 rfl (by decide +kernel) rfl (by repeat (first | exact np_ret)) guard_none; (first | exact WT_move rfl); exact rfl))
            all_goals ((apply WPY_pure 2 rfl (by decide +kernel) rfl (by repeat (first | exact np_ret)) guard_none; (first | exact WT_move rfl); exact rfl))
            all_goals ((apply WPY_pure 3 rfl (by decide +kernel) rfl (by repeat (first | exact np_ret)) guard_none; (first | exact WT_move rfl); exact rfl))
            all_goals ((apply WPY_pure 4 rfl (by decide +kernel) rfl (by repeat (first | exact np_ret)) guard_none; (first | exact WT_move rfl); exact rfl))
            all_goals ((apply WPY_pure 5 rfl (by decide +kernel) rfl (by repeat (first | exact np_ret)) guard_none; (first | exact WT_move rfl); exact rfl))
            all_goals ((apply WPY_pure 6 rfl (by decide +kernel) rfl (by repeat (first | exact np_ret)) guard_none; (first | exact WT_move rfl); exact rfl))
            all_goals ((apply WPY_pure 7 rfl (by decide +kernel) rfl (by repeat (first | exact np_ret)) guard_none; (first | (apply g_slice; first | exact WT_slch rfl rfl rfl)); exact rfl))
            all_goals (first | (apply WPY_one 8; exact (by decide +kernel); exact rfl; exact guard_none; exact (fun _ _ h => h); first | (apply g_callf; first | (refine WO_call Try.func44 rfl (hEnc 3) rfl ?_; rintro _ _ ⟨rfl, rfl⟩))))
            all_goals (first | (apply WPY_one 9; exact (by decide +kernel); exact rfl; exact guard_none; exact (fun _ _ h => h); first | (apply g_callf; first | (refine WO_call Try.func26 rfl (hWr 3) rfl ?_; rintro _ _ ⟨rfl, rfl⟩))))
            all_goals ((apply WPY_pure 10 rfl (by decide +kernel) rfl (by repeat (first | exact np_ret)) guard_none; (first | exact WT_move rfl); exact rfl))
            all_goals ((apply WPY_pure 11 rfl (by decide +kernel) rfl (by repeat (first | exact np_ret)) guard_none; (first | exact WT_extract rfl rfl); exact rfl))
            all_goals ((apply WPY_pure 12 rfl (by decide +kernel) rfl (by repeat (first | exact np_ret)) guard_none; (first | exact WT_extract rfl rfl); exact rfl))
            all_goals (first | (apply WPY_one 13; exact (by decide +kernel); exact rfl; exact guard_none; exact (fun h => absurd h (by decide)); first | (apply g_store; first | refine WO_store (k := 3) (l0 := []) rfl rfl rfl ?_)))
            all_goals (first | (apply WPY_one 14 (by decide +kernel) rfl guard_none (fun _ _ _ => trivial); apply WO_t (H := fun _ => True); (first | exact WT_assign rfl); exact rfl))
            all_goals (refine WPY_done (by decide +kernel) ?_)
            (repeat' (first | refine WP_seq ?_ | refine WP_region ?_ | refine WPL_nil ?_ | (apply WPL_t; (first | exact WT_move rfl | exact WT_assign rfl | (apply g_bin; first | exact WT_neq rfl rfl | exact WT_add rfl rfl | exact WT_sub rfl rfl) | (apply g_slice; first | exact WT_slcl rfl rfl rfl)); exact rfl) | refine WP_skip ?_ | refine WP_cond_f rfl ?_))
            rw [show ((n + 1 : Nat) : Int) - 1 = (n : Int) by omega]
            refine ⟨(n, b.drop (min b.length 112), 0, at2 + 1, ws2 ++ [⟨at2, encF (genF D.secs) at2 3 (b.take (min b.length 112))⟩]), ⟨by dsimp only; omega, by dsimp only; omega, .inr rfl, ?_, by dsimp only; exact (hone 3).2, by dsimp only; rw [List.length_append, List.length_singleton]; omega, by dsimp only; rw [List.length_drop]; omega⟩, by dsimp only; omega, Leads_env (by repeat (first | exact sub_nil | refine sub_cons rfl ?_)) (List.Sublist.refl _)⟩
            dsimp only
            rw [hmin, hdmin, List.append_assoc]
            exact x4
          ·
            rw [if_neg hn0] at x4
            (repeat' (first | refine WP_seq ?_ | refine WP_region ?_ | refine WPL_nil ?_ | (apply WPL_t; (first | exact WT_move rfl | exact WT_assign rfl | (apply g_bin; first | exact WT_eql rfl rfl | exact WT_gtr rfl rfl) | (apply g_call; first | exact WT_min rfl rfl | exact WT_len rfl rfl)); exact rfl) | refine WP_block ?_ | refine WP_skip ?_ | (refine WP_cond rfl (fun hb => ?_) (fun hb => ?_) <;> (repeat (first | replace hb := dec_t hb | replace hb := dec_f hb)) <;> (try (exfalso; first | omega)))))
            (refine WP_drawl 13 rfl ?_)
            all_goals ((apply WPY_take 0 rfl (by decide +kernel) rfl (by decide +kernel) (by repeat (first | exact np_ret)) guard_none; (first | (apply g_load; first | exact WT_loada2 (k := 3) rfl rfl rfl)); exact rfl))
            all_goals ((apply WPY_pure 1 rfl (by decide +kernel) rfl (by repeat (first | exact np_ret)) guard_none; (first | exact WT_move rfl); exact rfl))
            all_goals ((apply WPY_pure 2 rfl (by decide +kernel) rfl (by repeat (first | exact np_ret)) guard_none; (first | exact WT_move rfl); exact rfl))
            all_goals ((apply WPY_pure 3 rfl (by decide +kernel) rfl (by repeat (first | exact np_ret)) guard_none; (first | exact WT_move rfl); exact rfl))
            all_goals ((apply WPY_pure 4 rfl (by decide +kernel) rfl (by repeat (first | exact np_ret)) guard_none; (first | exact WT_move rfl); exact rfl))
            all_goals ((apply WPY_pure 5 rfl (by decide +kernel) rfl (by repeat (first | exact np_ret)) guard_none; (first | exact WT_move rfl); exact rfl))
            all_goals ((apply WPY_pure 6 rfl (by decide +kernel) rfl (by repeat (first | exact np_ret)) guard_none; (first | exact WT_move rfl); exact rfl))
            all_goals ((apply WPY_pure 7 rfl (by decide +kernel) rfl (by repeat (first | exact np_ret)) guard_none; (first | (apply g_slice; first | exact WT_slch rfl rfl rfl)); exact rfl))
            all_goals (first | (apply WPY_one 8; exact (by decide +kernel); exact rfl; exact guard_none; exact (fun _ _ h => h); first | (apply g_callf; first | (refine WO_call Try.func44 rfl (hEnc 1) rfl ?_; rintro _ _ ⟨rfl, rfl⟩))))
            all_goals (first | (apply WPY_one 9; exact (by decide +kernel); exact rfl; exact guard_none; exact (fun _ _ h => h); first | (apply g_callf; first | (refine WO_call Try.func26 rfl (hWr 1) rfl ?_; rintro _ _ ⟨rfl, rfl⟩))))
            all_goals ((apply WPY_pure 10 rfl (by decide +kernel) rfl (by repeat (first | exact np_ret)) guard_none; (first | exact WT_move rfl); exact rfl))
            all_goals ((apply WPY_pure 11 rfl (by decide +kernel) rfl (by repeat (first | exact np_ret)) guard_none; (first | exact WT_extract rfl rfl); exact rfl))
            all_goals ((apply WPY_pure 12 rfl (by decide +kernel) rfl (by repeat (first | exact np_ret)) guard_none; (first | exact WT_extract rfl rfl); exact rfl))
            all_goals (first | (apply WPY_one 13; exact (by decide +kernel); exact rfl; exact guard_none; exact (fun h => absurd h (by decide)); first | (apply g_store; first | refine WO_store (k := 3) (l0 := []) rfl rfl rfl ?_)))
            all_goals (first | (apply WPY_one 14 (by decide +kernel) rfl guard_none (fun _ _ _ => trivial); apply WO_t (H := fun _ => True); (first | exact WT_assign rfl); exact rfl))
            all_goals (refine WPY_done (by decide +kernel) ?_)
            (repeat' (first | refine WP_seq ?_ | refine WP_region ?_ | refine WPL_nil ?_ | (apply WPL_t; (first | exact WT_move rfl | exact WT_assign rfl | (apply g_bin; first | exact WT_neq rfl rfl | exact WT_add rfl rfl | exact WT_sub rfl rfl) | (apply g_slice; first | exact WT_slcl rfl rfl rfl)); exact rfl) | refine WP_skip ?_ | refine WP_cond_f rfl ?_))
            rw [show ((n + 1 : Nat) : Int) - 1 = (n : Int) by omega]
            refine ⟨(n, b.drop (min b.length 112), 0, at2 + 1, ws2 ++ [⟨at2, encF (genF D.secs) at2 1 (b.take (min b.length 112))⟩]), ⟨by dsimp only; omega, by dsimp only; omega, .inr rfl, ?_, by dsimp only; exact (hone 1).2, by dsimp only; rw [List.length_append, List.length_singleton]; omega, by dsimp only; rw [List.length_drop]; omega⟩, by dsimp only; omega, Leads_env (by repeat (first | exact sub_nil | refine sub_cons rfl ?_)) (List.Sublist.refl _)⟩
            dsimp only
            rw [hmin, hdmin, List.append_assoc]
            exact x4
          ·
            rw [if_pos hn0] at x4
            (repeat' (first | refine WP_seq ?_ | refine WP_region ?_ | refine WPL_nil ?_ | (apply WPL_t; (first | exact WT_move rfl | exact WT_assign rfl | (apply g_bin; first | exact WT_eql rfl rfl | exact WT_gtr rfl rfl | exact WT_or rfl rfl) | (apply g_call; first | exact WT_min rfl rfl | exact WT_len rfl rfl)); exact rfl) | refine WP_block ?_ | refine WP_skip ?_ | (refine WP_cond rfl (fun hb => ?_) (fun hb => ?_) <;> (repeat (first | replace hb := dec_t hb | replace hb := dec_f hb)) <;> (try (exfalso; first | omega)))))
            (refine WP_drawl 13 rfl ?_)
            all_goals ((apply WPY_take 0 rfl (by decide +kernel) rfl (by decide +kernel) (by repeat (first | exact np_ret)) guard_none; (first | (apply g_load; first | exact WT_loada2 (k := 3) rfl rfl rfl)); exact rfl))
            all_goals ((apply WPY_pure 1 rfl (by decide +kernel) rfl (by repeat (first | exact np_ret)) guard_none; (first | exact WT_move rfl); exact rfl))
            all_goals ((apply WPY_pure 2 rfl (by decide +kernel) rfl (by repeat (first | exact np_ret)) guard_none; (first | exact WT_move rfl); exact rfl))
            all_goals ((apply WPY_pure 3 rfl (by decide +kernel) rfl (by repeat (first | exact np_ret)) guard_none; (first | exact WT_move rfl); exact rfl))
            all_goals ((apply WPY_pure 4 rfl (by decide +kernel) rfl (by repeat (first | exact np_ret)) guard_none; (first | exact WT_move rfl); exact rfl))
            all_goals ((apply WPY_pure 5 rfl (by decide +kernel) rfl (by repeat (first | exact np_ret)) guard_none; (first | exact WT_move rfl); exact rfl))
            all_goals ((apply WPY_pure 6 rfl (by decide +kernel) rfl (by repeat (first | exact np_ret)) guard_none; (first | exact WT_move rfl); exact rfl))
            all_goals ((apply WPY_pure 7 rfl (by decide +kernel) rfl (by repeat (first | exact np_ret)) guard_none; (first | (apply g_slice; first | exact WT_slch rfl rfl rfl)); exact rfl))
            all_goals (first | (apply WPY_one 8; exact (by decide +kernel); exact rfl; exact guard_none; exact (fun _ _ h => h); first | (apply g_callf; first | (refine WO_call Try.func44 rfl (hEnc 2) rfl ?_; rintro _ _ ⟨rfl, rfl⟩))))
            all_goals (first | (apply WPY_one 9; exact (by decide +kernel); exact rfl; exact guard_none; exact (fun _ _ h => h); first | (apply g_callf; first | (refine WO_call Try.func26 rfl (hWr 2) rfl ?_; rintro _ _ ⟨rfl, rfl⟩))))
            all_goals ((apply WPY_pure 10 rfl (by decide +kernel) rfl (by repeat (first | exact np_ret)) guard_none; (first | exact WT_move rfl); exact rfl))
            all_goals ((apply WPY_pure 11 rfl (by decide +kernel) rfl (by repeat (first | exact np_ret)) guard_none; (first | exact WT_extract rfl rfl); exact rfl))
            all_goals ((apply WPY_pure 12 rfl (by decide +kernel) rfl (by repeat (first | exact np_ret)) guard_none; (first | exact WT_extract rfl rfl); exact rfl))
            all_goals (first | (apply WPY_one 13; exact (by decide +kernel); exact rfl; exact guard_none; exact (fun h => absurd h (by decide)); first | (apply g_store; first | refine WO_store (k := 3) (l0 := []) rfl rfl rfl ?_)))
            all_goals (first | (apply WPY_one 14 (by decide +kernel) rfl guard_none (fun _ _ _ => trivial); apply WO_t (H := fun _ => True); (first | exact WT_assign rfl); exact rfl))
            all_goals (refine WPY_done (by decide +kernel) ?_)
            (repeat' (first | refine WP_seq ?_ | refine WP_region ?_ | refine WPL_nil ?_ | (apply WPL_t; (first | exact WT_move rfl | exact WT_assign rfl | (apply g_bin; first | exact WT_neq rfl rfl | exact WT_add rfl rfl | exact WT_sub rfl rfl) | (apply g_slice; first | exact WT_slcl rfl rfl rfl)); exact rfl) | refine WP_skip ?_ | refine WP_cond_f rfl ?_))
            rw [show ((n + 1 : Nat) : Int) - 1 = (n : Int) by omega]
            refine ⟨(n, b.drop (min b.length 112), 0, at2 + 1, ws2 ++ [⟨at2, encF (genF D.secs) at2 2 (b.take (min b.length 112))⟩]), ⟨by dsimp only; omega, by dsimp only; omega, .inr rfl, ?_, by dsimp only; exact (hone 2).2, by dsimp only; rw [List.length_append, List.length_singleton]; omega, by dsimp only; rw [List.length_drop]; omega⟩, by dsimp only; omega, Leads_env (by repeat (first | exact sub_nil | refine sub_cons rfl ?_)) (List.Sublist.refl _)⟩
            dsimp only
            rw [hmin, hdmin, List.append_assoc]
            exact x4
          ·
            rw [if_neg hn0] at x4
            (repeat' (first | refine WP_seq ?_ | refine WP_region ?_ | refine WPL_nil ?_ | (apply WPL_t; (first | exact WT_move rfl | exact WT_assign rfl | (apply g_bin; first | exact WT_eql rfl rfl | exact WT_gtr rfl rfl) | (apply g_call; first | exact WT_min rfl rfl | exact WT_len rfl rfl)); exact rfl) | refine WP_block ?_ | refine WP_skip ?_ | (refine WP_cond rfl (fun hb => ?_) (fun hb => ?_) <;> (repeat (first | replace hb := dec_t hb | replace hb := dec_f hb)) <;> (try (exfalso; first | omega)))))
            (refine WP_drawl 13 rfl ?_)
            all_goals ((apply WPY_take 0 rfl (by decide +kernel) rfl (by decide +kernel) (by repeat (first | exact np_ret)) guard_none; (first | (apply g_load; first | exact WT_loada2 (k := 3) rfl rfl rfl)); exact rfl))
            all_goals ((apply WPY_pure 1 rfl (by decide +kernel) rfl (by repeat (first | exact np_ret)) guard_none; (first | exact WT_move rfl); exact rfl))
            all_goals ((apply WPY_pure 2 rfl (by decide +kernel) rfl (by repeat (first | exact np_ret)) guard_none; (first | exact WT_move rfl); exact rfl))
            all_goals ((apply WPY_pure 3 rfl (by decide +kernel) rfl (by repeat (first | exact np_ret)) guard_none; (first | exact WT_move rfl); exact rfl))
            all_goals ((apply WPY_pure 4 rfl (by decide +kernel) rfl (by repeat (first | exact np_ret)) guard_none; (first | exact WT_move rfl); exact rfl))
            all_goals ((apply WPY_pure 5 rfl (by decide +kernel) rfl (by repeat (first | exact np_ret)) guard_none; (first | exact WT_move rfl); exact rfl))
            all_goals ((apply WPY_pure 6 rfl (by decide +kernel) rfl (by repeat (first | exact np_ret)) guard_none; (first | exact WT_move rfl); exact rfl))
            all_goals ((apply WPY_pure 7 rfl (by decide +kernel) rfl (by repeat (first | exact np_ret)) guard_none; (first | (apply g_slice; first | exact WT_slch rfl rfl rfl)); exact rfl))
            all_goals (first | (apply WPY_one 8; exact (by decide +kernel); exact rfl; exact guard_none; exact (fun _ _ h => h); first | (apply g_callf; first | (refine WO_call Try.func44 rfl (hEnc 0) rfl ?_; rintro _ _ ⟨rfl, rfl⟩))))
            all_goals (first | (apply WPY_one 9; exact (by decide +kernel); exact rfl; exact guard_none; exact (fun _ _ h => h); first | (apply g_callf; first | (refine WO_call Try.func26 rfl (hWr 0) rfl ?_; rintro _ _ ⟨rfl, rfl⟩))))
            all_goals ((apply WPY_pure 10 rfl (by decide +kernel) rfl (by repeat (first | exact np_ret)) guard_none; (first | exact WT_move rfl); exact rfl))
            all_goals ((apply WPY_pure 11 rfl (by decide +kernel) rfl (by repeat (first | exact np_ret)) guard_none; (first | exact WT_extract rfl rfl); exact rfl))
            all_goals ((apply WPY_pure 12 rfl (by decide +kernel) rfl (by repeat (first | exact np_ret)) guard_none; (first | exact WT_extract rfl rfl); exact rfl))
            all_goals (first | (apply WPY_one 13; exact (by decide +kernel); exact rfl; exact guard_none; exact (fun h => absurd h (by decide)); first | (apply g_store; first | refine WO_store (k := 3) (l0 := []) rfl rfl rfl ?_)))
            all_goals (first | (apply WPY_one 14 (by decide +kernel) rfl guard_none (fun _ _ _ => trivial); apply WO_t (H := fun _ => True); (first | exact WT_assign rfl); exact rfl))
            all_goals (refine WPY_done (by decide +kernel) ?_)
            (repeat' (first | refine WP_seq ?_ | refine WP_region ?_ | refine WPL_nil ?_ | (apply WPL_t; (first | exact WT_move rfl | exact WT_assign rfl | (apply g_bin; first | exact WT_neq rfl rfl | exact WT_add rfl rfl | exact WT_sub rfl rfl) | (apply g_slice; first | exact WT_slcl rfl rfl rfl)); exact rfl) | refine WP_skip ?_ | refine WP_cond_f rfl ?_))
            rw [show ((n + 1 : Nat) : Int) - 1 = (n : Int) by omega]
            refine ⟨(n, b.drop (min b.length 112), 0, at2 + 1, ws2 ++ [⟨at2, encF (genF D.secs) at2 0 (b.take (min b.length 112))⟩]), ⟨by dsimp only; omega, by dsimp only; omega, .inr rfl, ?_, by dsimp only; exact (hone 0).2, by dsimp only; rw [List.length_append, List.length_singleton]; omega, by dsimp only; rw [List.length_drop]; omega⟩, by dsimp only; omega, Leads_env (by repeat (first | exact sub_nil | refine sub_cons rfl ?_)) (List.Sublist.refl _)⟩
            dsimp only
            rw [hmin, hdmin, List.append_assoc]
            exact x4
      ·
        have hj9 : j = rest.length := by omega
        rw [hj9, List.drop_length, allF_nil, List.append_nil] at hws
        subst hws
        have hSy := sync_fr { D with pend := allF (genF D.secs) rest at0 } hDI
        (repeat' (first | refine WP_seq ?_ | refine WP_region ?_ | refine WPL_nil ?_ | (apply WPL_t; (first | exact WT_move rfl | exact WT_assign rfl | exact WT_extract rfl rfl | (apply g_load; first | exact WT_load (k := 4) rfl rfl rfl rfl) | (apply g_fld; first | exact WT_field rfl rfl rfl) | (apply g_bin; first | exact WT_neq rfl rfl) | (apply g_call; first | exact WT_len rfl rfl)); exact rfl) | refine WP_skip ?_ | (apply WPL_op0; exact rfl; first | (apply g_callf; first | (refine WO_call Try.func27 rfl hSy rfl ?_; rintro _ _ ⟨rfl, rfl⟩)) | (apply g_store; first | refine WO_store (k := 3) (l0 := []) rfl rfl rfl ?_ | refine WO_store (k := 4) (l0 := []) rfl rfl rfl ?_)) | (refine WP_cond rfl (fun hb => ?_) (fun hb => ?_) <;> (repeat (first | replace hb := dec_t hb | replace hb := dec_f hb | replace hb := not_t hb | replace hb := not_f hb)) <;> (try (exfalso; first | fail)))))
        ·
          rw [if_pos (by assumption)]
          (refine WP_drawl 3 rfl ?_)
          all_goals ((apply WPY_pure 0 rfl (by decide +kernel) rfl (by repeat (first | exact np_ret)) guard_none; (first | (apply g_build; first | exact WT_build2 rfl rfl (by repeat (first | exact PartsO.nil)))); exact rfl))
          all_goals ((apply WPY_pure 2 rfl (by decide +kernel) rfl (by repeat (first | exact np_ret)) guard_none; (first | exact WT_move rfl); exact rfl))
          all_goals (refine WPY_two (H2 := feet []) 1 3 (by decide +kernel) rfl guard_none (fun _ _ _ => trivial) rfl guard_none (fun h => absurd h (by decide)) ?_ ?_; (apply WO_t (H := fun _ => True); (first | (apply g_load; first | exact WT_loada2 (k := 3) rfl rfl rfl)); exact rfl); (apply WPY_one 3; exact (by decide +kernel); exact rfl; exact guard_none; exact (fun h => absurd h (by decide)); (first | (apply g_store; first | refine WO_store (k := 2) (l0 := []) rfl rfl rfl ?_))); rotate_left; (first | (apply g_store; first | refine WO_store (k := 2) (l0 := []) rfl rfl rfl ?_)); (apply WPY_one 1; exact (by decide +kernel); exact rfl; exact guard_none; exact (fun _ _ _ => trivial); (apply WO_t (H := fun _ => True); (first | (apply g_load; first | exact WT_loada2 (k := 3) rfl rfl rfl)); exact rfl)))
          all_goals (first | (apply WPY_one 4; exact (by decide +kernel); exact rfl; exact guard_none; exact (fun h => absurd h (by decide)); first | (apply g_store; first | refine WO_store (k := 1) (l0 := []) rfl rfl rfl ?_)))
          all_goals (first | (apply WPY_one 5 (by decide +kernel) rfl guard_none (fun _ _ _ => trivial); apply WO_t (H := fun _ => True); (first | exact WT_assign rfl); exact rfl))
          all_goals (refine WPY_done (by decide +kernel) ?_)
          all_goals ((repeat' (first | refine WP_ret ?_)))
          all_goals ((refine ⟨.inr rfl, retw (loc' := []) (by first | exact ret3 rfl (.cella (k := 1) rfl rfl rfl rfl inferInstance rfl) (.cella (k := 0) rfl rfl rfl rfl inferInstance rfl) (.tmp rfl) (List.nil_sublist _) ⟨rfl, rfl⟩ | exact ret3 rfl (.cella (k := 2) rfl rfl rfl rfl inferInstance rfl) (.cella (k := 1) rfl rfl rfl rfl inferInstance rfl) (.tmp rfl) (List.nil_sublist _) ⟨rfl, rfl⟩) ?_ ⟨rfl, rfl⟩⟩))
          all_goals exact Ims.tup (.cons im_jr0 (.cons (.refl _) (.cons (.refl _) .nil)))
        ·
          rw [if_neg (fun h => h (by assumption))]
          (refine WP_drawl 2 rfl ?_)
          all_goals ((apply WPY_take 0 rfl (by decide +kernel) rfl (by decide +kernel) (by repeat (first | exact np_ret)) guard_none; (first | (apply g_load; first | exact WT_loada2 (k := 4) rfl rfl rfl)); exact rfl))
          all_goals (refine WPY_two (H2 := feet []) 1 2 (by decide +kernel) rfl guard_none (fun _ _ _ => trivial) rfl guard_none (fun h => absurd h (by decide)) ?_ ?_; (apply WO_t (H := fun _ => True); (first | (apply g_load; first | exact WT_loada2 (k := 3) rfl rfl rfl)); exact rfl); (apply WPY_one 2; exact (by decide +kernel); exact rfl; exact guard_none; exact (fun h => absurd h (by decide)); (first | (apply g_store; first | refine WO_store (k := 2) (l0 := []) rfl rfl rfl ?_))); rotate_left; (first | (apply g_store; first | refine WO_store (k := 2) (l0 := []) rfl rfl rfl ?_)); (apply WPY_one 1; exact (by decide +kernel); exact rfl; exact guard_none; exact (fun _ _ _ => trivial); (apply WO_t (H := fun _ => True); (first | (apply g_load; first | exact WT_loada2 (k := 3) rfl rfl rfl)); exact rfl)))
          all_goals (first | (apply WPY_one 3; exact (by decide +kernel); exact rfl; exact guard_none; exact (fun h => absurd h (by decide)); first | (apply g_store; first | refine WO_store (k := 1) (l0 := []) rfl rfl rfl ?_)))
          all_goals (first | (apply WPY_one 4 (by decide +kernel) rfl guard_none (fun _ _ _ => trivial); apply WO_t (H := fun _ => True); (first | exact WT_assign rfl); exact rfl))
          all_goals (refine WPY_done (by decide +kernel) ?_)
          all_goals ((repeat' (first | refine WP_ret ?_)))
          all_goals ((refine ⟨.inr rfl, retw (loc' := []) (by first | exact ret3 rfl (.cella (k := 1) rfl rfl rfl rfl inferInstance rfl) (.cella (k := 0) rfl rfl rfl rfl inferInstance rfl) (.tmp rfl) (List.nil_sublist _) ⟨rfl, rfl⟩ | exact ret3 rfl (.cella (k := 2) rfl rfl rfl rfl inferInstance rfl) (.cella (k := 1) rfl rfl rfl rfl inferInstance rfl) (.tmp rfl) (List.nil_sublist _) ⟨rfl, rfl⟩) ?_ ⟨rfl, rfl⟩⟩))
          all_goals exact .refl _

end Go.Proofs.Ytmghnjahjeinnaa

/- Sync, whole. -/
namespace Go.Proofs.Ytmghnjahjeinnaa
open Go Go.RowKit Go.Kx Go.Fr
theorem jsync_any (o : List (List UInt8)) (m s : Int) (D : Disk) (ho : o.length < 2 ^ 20) (hall : ∀ b ∈ o, b.length < 2 ^ 40) (hDI : DIn D) : FnC Try.prog 21 [jr o m s, dsk D] [] (JPost (jsyncF o m s D)) := by
  by_cases h : jbad o m s D
  · exact jsync_bad o m s D ho hall h
  · have h1 : jOK o m s := Decidable.not_not.1 fun hn => h (.inl hn)
    have h2 : Disk.ok D = true := by
      cases e : Disk.ok D
      · exact absurd (.inr (.inl e)) h
      · rfl
    have h3 : D.stopped = false := by
      cases e : D.stopped
      · rfl
      · exact absurd (.inr (.inr (.inl e))) h
    have h4 : m = D.secs.length := Decidable.not_not.1 fun hn => h (.inr (.inr (.inr (.inl hn))))
    have h5 : D.pend.length = 0 := Decidable.not_not.1 fun hn => h (.inr (.inr (.inr (.inr hn))))
    subst h4
    obtain ⟨s, rfl⟩ := Int.eq_ofNat_of_zero_le h1.2.2.1
    exact jsync_good o s D ho hall hDI h1 h2 h3 h5

end Go.Proofs.Ytmghnjahjeinnaa
