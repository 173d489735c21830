/- The reference's good. -/
import Derived.Test.YtmghnjahjeinnaaJour1
import Derived.Test.YtmghnjahjeinnaaFrame2
namespace Go.Proofs.Ytmghnjahjeinnaa
open Go Go.RowKit Go.Kx Go.Fr

/-- What the fields of a sector must be. -/
def headR (s : List UInt8) (n e k : Nat) : Bool :=
  decide (numN (s.take 4) ≠ 0) && (decide (numN (s.take 4) = numN (s.drop 124)) && (decide (numN ((s.take 8).drop 4) % 2 ^ 32 = sumF ((s.take 124).drop 8)) && (decide (numN ((s.take 10).drop 8) = n) &&
  (decide (k ≤ 3) && (decide (e ≤ 112) && (!(decide (k < 2) && decide (e ≠ 112)) && !(decide (k % 2 = 0) && decide (e = 0))))))))
def goodR (s : List UInt8) (n : Nat) : Bool :=
  headR s n (s[11]?.getD 0).toNat (s[10]?.getD 0).toNat && ((s.take 124).drop (12 + (s[11]?.getD 0).toNat)).all (· == 0)

set_option maxHeartbeats 4000000 in
set_option maxRecDepth 100000 in
theorem goodR_any (s : List UInt8) (n : Nat) (hs : s.length = 128) (hn : n < 2 ^ 63) : FnC Try.prog 72 [isl eByte s, exI .i64 n] [] (fun p loc => p = exB (goodR s n) ∧ loc = []) := by
  refine FnC_enter Try.func72 rfl Try.ntmps72 rfl fun w0 F0 out => ?_
  have hu11 := s[11].toNat_lt
  have hu10 := s[10].toNat_lt
  have h10 : s[10]?.getD 0 = s[10] := by rw [List.getElem?_eq_getElem (by omega)]; rfl
  have h11 : s[11]?.getD 0 = s[11] := by rw [List.getElem?_eq_getElem (by omega)]; rfl
  have hn1 := numN_lt64 (s.take 4) (by rw [List.length_take]; omega)
  (repeat' (first | (apply cut_at 2; refine WP_cutR 2 (fun b : Bool => ([(0, isl eByte s), (5, exI .i64 s[11].toNat), (72, exB b)], [])) (fun b => b = !headR s n s[11].toNat s[10].toNat) ?_ fun b hb0 => ?_) | refine WP_seq ?_ | refine WP_region ?_ | refine WPL_nil ?_ | (apply WPL_t; (first | exact WT_move rfl | exact WT_assign rfl | (apply g_load; first | exact WT_loadf rfl rfl) | (apply g_bin; first | exact WT_add rfl rfl) | (apply g_index; first | exact WT_index rfl rfl rfl) | (apply g_conv; first | exact WT_convb rfl rfl rfl)); exact rfl) | refine WP_block ?_ | refine WP_skip ?_ | refine WP_ret ?_ | (refine WP_cond rfl (fun hb => ?_) (fun hb => ?_) <;> (repeat (first | fail)) <;> (try (exfalso; first | fail)))))
  rotate_left
  · refine ⟨.inr rfl, ret1 rfl (.tmp rfl) (List.nil_sublist _) ⟨congrArg exB ?_, rfl⟩⟩
    unfold goodR
    rw [h10, h11]
    cases hh : headR s n s[11].toNat s[10].toNat <;> simp_all
  · have hhead : headR s n s[11].toNat s[10].toNat = true := by cases hh : headR s n s[11].toNat s[10].toNat <;> simp_all
    have he : s[11].toNat ≤ 112 := by unfold headR at hhead; simp only [Bool.and_eq_true, decide_eq_true_eq] at hhead; exact hhead.2.2.2.2.2.1
    refine WP_loop (fun j : Nat => ([(0, isl eByte s), (6, exI .i64 j)], [])) (fun j => 12 + s[11].toNat ≤ j ∧ j ≤ 124 ∧ ((s.take j).drop (12 + s[11].toNat)).all (· == 0) = true) (fun j => 124 - j) (12 + s[11].toNat) ?_ ⟨by omega, by omega, by simp⟩ fun j hj => ?_
    · exact Leads_env (by repeat (first | exact sub_nil | refine sub_cons rfl ?_)) (List.Sublist.refl _)
    obtain ⟨hj1, hj2, hj3⟩ := hj
    have hs0 : (UInt8.toNat 0) = 0 := rfl
    (repeat' (first | refine WP_seq ?_ | refine WP_region ?_ | refine WPL_nil ?_ | (apply WPL_t; (first | exact WT_move rfl | exact WT_assign rfl | (apply g_load; first | exact WT_loadf rfl rfl) | (apply g_bin; first | exact WT_lss rfl rfl | exact WT_neq rfl rfl | exact WT_add rfl rfl) | (apply g_index; first | exact WT_index rfl rfl rfl)); exact rfl) | refine WP_block ?_ | refine WP_skip ?_ | refine WP_ret ?_ | refine WP_exit ?_ | (refine WP_cond rfl (fun hb => ?_) (fun hb => ?_) <;> (repeat (first | replace hb := dec_t hb | replace hb := dec_f hb | replace hb := not_t hb | replace hb := not_f hb)) <;> (try (exfalso; first | fail)))))
    · have hlt : j < 124 := by omega
      refine ⟨.inr rfl, ret1 rfl (.tmp rfl) (List.nil_sublist _) ⟨congrArg exB ?_, rfl⟩⟩
      unfold goodR
      rw [h10, h11, hhead, Bool.true_and]
      symm
      refine List.all_eq_false.2 ⟨s[j], ?_, ?_⟩
      · refine List.mem_of_getElem? (i := j - (12 + s[11].toNat)) ?_
        rw [List.getElem?_drop, show 12 + s[11].toNat + (j - (12 + s[11].toNat)) = j by omega, List.getElem?_take_of_lt hlt, List.getElem?_eq_getElem (by omega)]
      · simp only [beq_iff_eq]
        intro h0
        have h1 := congrArg UInt8.toNat h0
        have h2 : (0 : UInt8).toNat = 0 := rfl
        omega
    · have hlt : j < 124 := by omega
      refine ⟨j + 1, ⟨by omega, by omega, ?_⟩, by omega, Leads_env (by repeat (first | exact sub_nil | refine sub_cons rfl ?_)) (List.Sublist.refl _)⟩
      rw [List.take_succ_eq_append_getElem (by omega), List.drop_append_of_le_length (by rw [List.length_take]; omega), List.all_append, hj3]
      have : s[j] = 0 := UInt8.toNat_inj.1 (by omega)
      simp [this]
    · obtain rfl : j = 124 := by omega
      refine ⟨.inr rfl, ret1 rfl (.tmp rfl) (List.nil_sublist _) ⟨congrArg exB ?_, rfl⟩⟩
      unfold goodR
      rw [h10, h11, hhead, hj3]
      rfl
  · skip
    (refine WP_drawl 62 rfl ?_)
    all_goals ((apply WPY_pure 0 rfl (by decide +kernel) rfl (by repeat (first | exact np_ret)) guard_none; (first | exact WT_move rfl); exact rfl))
    all_goals ((apply WPY_pure 1 rfl (by decide +kernel) rfl (by repeat (first | exact np_ret)) guard_none; (first | (apply g_slice; first | exact WT_slch rfl rfl rfl)); exact rfl))
    all_goals (first | (apply WPY_one 2; exact (by decide +kernel); exact rfl; exact guard_none; exact (fun _ _ h => h); first | (apply g_callf; first | (refine WO_call Try.func63 rfl (number_any _ (by simp only [List.length_take, List.length_drop]; omega)) rfl ?_; rintro _ _ ⟨rfl, rfl⟩))))
    all_goals ((apply WPY_pure 3 rfl (by decide +kernel) rfl (by repeat (first | exact np_ret)) guard_none; (first | (apply g_bin; first | exact WT_eql rfl rfl)); exact rfl))
    all_goals ((apply WPY_pure 4 rfl (by decide +kernel) rfl (by repeat (first | exact np_ret)) guard_none; (first | exact WT_move rfl); exact rfl))
    all_goals (first | (refine WPY_case 15 rfl (fun hb => ?_) (fun hb => ?_) <;> (repeat (first | replace hb := dec_t hb | replace hb := dec_f hb | replace hb := not_t hb | replace hb := not_f hb)) <;> (try (exfalso; first | (cases hb; done) | omega))) | skip)
    all_goals (first | (refine WPY_off 5 rfl (by decide +kernel) rfl (by repeat (first | exact np_ret)) rfl rfl rfl rfl rfl ?_) | (apply WPY_pure 5 rfl (by decide +kernel) rfl (by repeat (first | exact np_ret)) (guard_some rfl rfl rfl); (first | exact WT_move rfl); exact rfl))
    all_goals (first | (refine WPY_off 6 rfl (by decide +kernel) rfl (by repeat (first | exact np_ret)) rfl rfl rfl rfl rfl ?_) | (apply WPY_pure 6 rfl (by decide +kernel) rfl (by repeat (first | exact np_ret)) (guard_some rfl rfl rfl); (first | (apply g_slice; first | exact WT_slch rfl rfl rfl)); exact rfl))
    all_goals (first | (refine WPY_off 8 rfl (by decide +kernel) rfl (by repeat (first | exact np_ret)) rfl rfl rfl rfl rfl ?_) | (apply WPY_pure 8 rfl (by decide +kernel) rfl (by repeat (first | exact np_ret)) (guard_some rfl rfl rfl); (first | exact WT_move rfl); exact rfl))
    all_goals (first | (refine WPY_off 9 rfl (by decide +kernel) rfl (by repeat (first | exact np_ret)) rfl rfl rfl rfl rfl ?_) | (apply WPY_pure 9 rfl (by decide +kernel) rfl (by repeat (first | exact np_ret)) (guard_some rfl rfl rfl); (first | (apply g_slice; first | exact WT_slcl rfl rfl rfl)); exact rfl))
    all_goals (first | (refine WPY_off 7 rfl (by decide +kernel) rfl (by repeat (first | exact np_ret)) rfl rfl rfl rfl rfl ?_) | (apply WPY_one 7; exact (by decide +kernel); exact rfl; exact (guard_some rfl rfl rfl); exact (fun _ _ h => h); first | (apply g_callf; first | (refine WO_call Try.func63 rfl (number_any _ (by simp only [List.length_take, List.length_drop]; omega)) rfl ?_; rintro _ _ ⟨rfl, rfl⟩))))
    all_goals (first | (refine WPY_off 10 rfl (by decide +kernel) rfl (by repeat (first | exact np_ret)) rfl rfl rfl rfl rfl ?_) | (apply WPY_one 10; exact (by decide +kernel); exact rfl; exact (guard_some rfl rfl rfl); exact (fun _ _ h => h); first | (apply g_callf; first | (refine WO_call Try.func63 rfl (number_any _ (by simp only [List.length_take, List.length_drop]; omega)) rfl ?_; rintro _ _ ⟨rfl, rfl⟩))))
    all_goals (first | (refine WPY_off 11 rfl (by decide +kernel) rfl (by repeat (first | exact np_ret)) rfl rfl rfl rfl rfl ?_) | (apply WPY_pure 11 rfl (by decide +kernel) rfl (by repeat (first | exact np_ret)) (guard_some rfl rfl rfl); (first | (apply g_bin; first | exact WT_neq rfl rfl)); exact rfl))
    all_goals ((apply WPY_pure 12 rfl (by decide +kernel) rfl (by repeat (first | exact np_ret)) guard_none; (first | exact WT_pick (b := true) rfl (fun _ => rfl) (fun e => by cases e) | exact WT_pick (b := false) rfl (fun e => by cases e) (fun _ => rfl)); exact rfl))
    all_goals ((apply WPY_pure 13 rfl (by decide +kernel) rfl (by repeat (first | exact np_ret)) guard_none; (first | exact WT_move rfl); exact rfl))
    all_goals (first | (refine WPY_case 24 rfl (fun hb => ?_) (fun hb => ?_) <;> (repeat (first | replace hb := dec_t hb | replace hb := dec_f hb | replace hb := not_t hb | replace hb := not_f hb)) <;> (try (exfalso; first | (cases hb; done) | omega))) | skip)
    all_goals (first | (refine WPY_off 14 rfl (by decide +kernel) rfl (by repeat (first | exact np_ret)) rfl rfl rfl rfl rfl ?_) | (apply WPY_pure 14 rfl (by decide +kernel) rfl (by repeat (first | exact np_ret)) (guard_some rfl rfl rfl); (first | exact WT_move rfl); exact rfl))
    all_goals (first | (refine WPY_off 15 rfl (by decide +kernel) rfl (by repeat (first | exact np_ret)) rfl rfl rfl rfl rfl ?_) | (apply WPY_pure 15 rfl (by decide +kernel) rfl (by repeat (first | exact np_ret)) (guard_some rfl rfl rfl); (first | (apply g_slice; first | exact WT_slc rfl rfl rfl rfl)); exact rfl))
    all_goals (first | (refine WPY_off 18 rfl (by decide +kernel) rfl (by repeat (first | exact np_ret)) rfl rfl rfl rfl rfl ?_) | (apply WPY_pure 18 rfl (by decide +kernel) rfl (by repeat (first | exact np_ret)) (guard_some rfl rfl rfl); (first | exact WT_move rfl); exact rfl))
    all_goals (first | (refine WPY_off 19 rfl (by decide +kernel) rfl (by repeat (first | exact np_ret)) rfl rfl rfl rfl rfl ?_) | (apply WPY_pure 19 rfl (by decide +kernel) rfl (by repeat (first | exact np_ret)) (guard_some rfl rfl rfl); (first | (apply g_slice; first | exact WT_slc rfl rfl rfl rfl)); exact rfl))
    all_goals (first | (refine WPY_off 16 rfl (by decide +kernel) rfl (by repeat (first | exact np_ret)) rfl rfl rfl rfl rfl ?_) | (apply WPY_one 16; exact (by decide +kernel); exact rfl; exact (guard_some rfl rfl rfl); exact (fun _ _ h => h); first | (apply g_callf; first | (refine WO_call Try.func63 rfl (number_any _ (by simp only [List.length_take, List.length_drop]; omega)) rfl ?_; rintro _ _ ⟨rfl, rfl⟩))))
    all_goals (first | (refine WPY_off 17 rfl (by decide +kernel) rfl (by repeat (first | exact np_ret)) rfl rfl rfl rfl rfl ?_) | (first | (apply WPY_pure 17 rfl (by decide +kernel) rfl (by repeat (first | exact np_ret)) (guard_some rfl rfl rfl); (first | (apply g_conv; first | exact WT_convu rfl rfl rfl)); exact rfl)))
    all_goals (first | (refine WPY_off 20 rfl (by decide +kernel) rfl (by repeat (first | exact np_ret)) rfl rfl rfl rfl rfl ?_) | (apply WPY_one 20; exact (by decide +kernel); exact rfl; exact (guard_some rfl rfl rfl); exact (fun _ _ h => h); first | (apply g_callf; first | (refine WO_call Try.func67 rfl (checksum_any _ (by simp only [List.length_take, List.length_drop]; omega)) rfl ?_; rintro _ _ ⟨rfl, rfl⟩))))
    all_goals (first | (refine WPY_off 21 rfl (by decide +kernel) rfl (by repeat (first | exact np_ret)) rfl rfl rfl rfl rfl ?_) | (apply WPY_pure 21 rfl (by decide +kernel) rfl (by repeat (first | exact np_ret)) (guard_some rfl rfl rfl); (first | (apply g_bin; first | exact WT_neq rfl rfl)); exact rfl))
    all_goals ((apply WPY_pure 22 rfl (by decide +kernel) rfl (by repeat (first | exact np_ret)) guard_none; (first | exact WT_pick (b := true) rfl (fun _ => rfl) (fun e => by cases e) | exact WT_pick (b := false) rfl (fun e => by cases e) (fun _ => rfl)); exact rfl))
    all_goals ((apply WPY_pure 23 rfl (by decide +kernel) rfl (by repeat (first | exact np_ret)) guard_none; (first | exact WT_move rfl); exact rfl))
    all_goals (first | (refine WPY_case 34 rfl (fun hb => ?_) (fun hb => ?_) <;> (repeat (first | replace hb := dec_t hb | replace hb := dec_f hb | replace hb := not_t hb | replace hb := not_f hb)) <;> (try (exfalso; first | (cases hb; done) | omega))) | skip)
    all_goals (first | (refine WPY_off 24 rfl (by decide +kernel) rfl (by repeat (first | exact np_ret)) rfl rfl rfl rfl rfl ?_) | (apply WPY_pure 24 rfl (by decide +kernel) rfl (by repeat (first | exact np_ret)) (guard_some rfl rfl rfl); (first | exact WT_move rfl); exact rfl))
    all_goals (first | (refine WPY_off 25 rfl (by decide +kernel) rfl (by repeat (first | exact np_ret)) rfl rfl rfl rfl rfl ?_) | (apply WPY_pure 25 rfl (by decide +kernel) rfl (by repeat (first | exact np_ret)) (guard_some rfl rfl rfl); (first | (apply g_slice; first | exact WT_slc rfl rfl rfl rfl)); exact rfl))
    all_goals (first | (refine WPY_off 27 rfl (by decide +kernel) rfl (by repeat (first | exact np_ret)) rfl rfl rfl rfl rfl ?_) | (apply WPY_pure 27 rfl (by decide +kernel) rfl (by repeat (first | exact np_ret)) (guard_some rfl rfl rfl); (first | exact WT_move rfl); exact rfl))
    all_goals (first | (refine WPY_off 28 rfl (by decide +kernel) rfl (by repeat (first | exact np_ret)) rfl rfl rfl rfl rfl ?_) | (first | (apply WPY_pure 28 rfl (by decide +kernel) rfl (by repeat (first | exact np_ret)) (guard_some rfl rfl rfl); (first | (apply g_conv; first | exact WT_convu rfl rfl rfl)); exact rfl)))
    all_goals (first | (refine WPY_off 26 rfl (by decide +kernel) rfl (by repeat (first | exact np_ret)) rfl rfl rfl rfl rfl ?_) | (apply WPY_one 26; exact (by decide +kernel); exact rfl; exact (guard_some rfl rfl rfl); exact (fun _ _ h => h); first | (apply g_callf; first | (refine WO_call Try.func63 rfl (number_any _ (by simp only [List.length_take, List.length_drop]; omega)) rfl ?_; rintro _ _ ⟨rfl, rfl⟩))))
    all_goals (first | (refine WPY_off 29 rfl (by decide +kernel) rfl (by repeat (first | exact np_ret)) rfl rfl rfl rfl rfl ?_) | (apply WPY_pure 29 rfl (by decide +kernel) rfl (by repeat (first | exact np_ret)) (guard_some rfl rfl rfl); (first | (apply g_bin; first | exact WT_neq rfl rfl)); exact rfl))
    all_goals ((apply WPY_pure 30 rfl (by decide +kernel) rfl (by repeat (first | exact np_ret)) guard_none; (first | exact WT_pick (b := true) rfl (fun _ => rfl) (fun e => by cases e) | exact WT_pick (b := false) rfl (fun e => by cases e) (fun _ => rfl)); exact rfl))
    all_goals ((apply WPY_pure 31 rfl (by decide +kernel) rfl (by repeat (first | exact np_ret)) guard_none; (first | exact WT_move rfl); exact rfl))
    all_goals (first | (refine WPY_case 42 rfl (fun hb => ?_) (fun hb => ?_) <;> (repeat (first | replace hb := dec_t hb | replace hb := dec_f hb | replace hb := not_t hb | replace hb := not_f hb)) <;> (try (exfalso; first | (cases hb; done) | omega))) | skip)
    all_goals (first | (refine WPY_off 32 rfl (by decide +kernel) rfl (by repeat (first | exact np_ret)) rfl rfl rfl rfl rfl ?_) | (apply WPY_pure 32 rfl (by decide +kernel) rfl (by repeat (first | exact np_ret)) (guard_some rfl rfl rfl); (first | exact WT_move rfl); exact rfl))
    all_goals (first | (refine WPY_off 33 rfl (by decide +kernel) rfl (by repeat (first | exact np_ret)) rfl rfl rfl rfl rfl ?_) | (apply WPY_pure 33 rfl (by decide +kernel) rfl (by repeat (first | exact np_ret)) (guard_some rfl rfl rfl); (first | (apply g_index; first | exact WT_index rfl rfl rfl)); exact rfl))
    all_goals (first | (refine WPY_off 34 rfl (by decide +kernel) rfl (by repeat (first | exact np_ret)) rfl rfl rfl rfl rfl ?_) | (apply WPY_take 34 rfl (by decide +kernel) rfl (by decide +kernel) (by repeat (first | exact np_ret)) (guard_some rfl rfl rfl); (first | (apply g_load; first | exact WT_loadf rfl rfl)); exact rfl))
    all_goals (first | (refine WPY_off 35 rfl (by decide +kernel) rfl (by repeat (first | exact np_ret)) rfl rfl rfl rfl rfl ?_) | (apply WPY_pure 35 rfl (by decide +kernel) rfl (by repeat (first | exact np_ret)) (guard_some rfl rfl rfl); (first | (apply g_bin; first | exact WT_gtr rfl rfl)); exact rfl))
    all_goals ((apply WPY_pure 36 rfl (by decide +kernel) rfl (by repeat (first | exact np_ret)) guard_none; (first | exact WT_pick (b := true) rfl (fun _ => rfl) (fun e => by cases e) | exact WT_pick (b := false) rfl (fun e => by cases e) (fun _ => rfl)); exact rfl))
    all_goals ((apply WPY_pure 37 rfl (by decide +kernel) rfl (by repeat (first | exact np_ret)) guard_none; (first | exact WT_move rfl); exact rfl))
    all_goals (first | (refine WPY_case 48 rfl (fun hb => ?_) (fun hb => ?_) <;> (repeat (first | replace hb := dec_t hb | replace hb := dec_f hb | replace hb := not_t hb | replace hb := not_f hb)) <;> (try (exfalso; first | (cases hb; done) | omega))) | skip)
    all_goals (first | (refine WPY_off 38 rfl (by decide +kernel) rfl (by repeat (first | exact np_ret)) rfl rfl rfl rfl rfl ?_) | (apply WPY_pure 38 rfl (by decide +kernel) rfl (by repeat (first | exact np_ret)) (guard_some rfl rfl rfl); (first | exact WT_move rfl); exact rfl))
    all_goals (first | (refine WPY_off 39 rfl (by decide +kernel) rfl (by repeat (first | exact np_ret)) rfl rfl rfl rfl rfl ?_) | (apply WPY_pure 39 rfl (by decide +kernel) rfl (by repeat (first | exact np_ret)) (guard_some rfl rfl rfl); (first | (apply g_bin; first | exact WT_gtr rfl rfl)); exact rfl))
    all_goals ((apply WPY_pure 40 rfl (by decide +kernel) rfl (by repeat (first | exact np_ret)) guard_none; (first | exact WT_pick (b := true) rfl (fun _ => rfl) (fun e => by cases e) | exact WT_pick (b := false) rfl (fun e => by cases e) (fun _ => rfl)); exact rfl))
    all_goals ((apply WPY_pure 41 rfl (by decide +kernel) rfl (by repeat (first | exact np_ret)) guard_none; (first | exact WT_move rfl); exact rfl))
    all_goals (first | (refine WPY_case 52 rfl (fun hb => ?_) (fun hb => ?_) <;> (repeat (first | replace hb := dec_t hb | replace hb := dec_f hb | replace hb := not_t hb | replace hb := not_f hb)) <;> (try (exfalso; first | (cases hb; done) | omega))) | skip)
    all_goals (first | (refine WPY_off 42 rfl (by decide +kernel) rfl (by repeat (first | exact np_ret)) rfl rfl rfl rfl rfl ?_) | (apply WPY_pure 42 rfl (by decide +kernel) rfl (by repeat (first | exact np_ret)) (guard_some rfl rfl rfl); (first | exact WT_move rfl); exact rfl))
    all_goals (first | (refine WPY_off 43 rfl (by decide +kernel) rfl (by repeat (first | exact np_ret)) rfl rfl rfl rfl rfl ?_) | (apply WPY_pure 43 rfl (by decide +kernel) rfl (by repeat (first | exact np_ret)) (guard_some rfl rfl rfl); (first | (apply g_index; first | exact WT_index rfl rfl rfl)); exact rfl))
    all_goals (first | (refine WPY_off 44 rfl (by decide +kernel) rfl (by repeat (first | exact np_ret)) rfl rfl rfl rfl rfl ?_) | (apply WPY_take 44 rfl (by decide +kernel) rfl (by decide +kernel) (by repeat (first | exact np_ret)) (guard_some rfl rfl rfl); (first | (apply g_load; first | exact WT_loadf rfl rfl)); exact rfl))
    all_goals (first | (refine WPY_off 45 rfl (by decide +kernel) rfl (by repeat (first | exact np_ret)) rfl rfl rfl rfl rfl ?_) | (apply WPY_pure 45 rfl (by decide +kernel) rfl (by repeat (first | exact np_ret)) (guard_some rfl rfl rfl); (first | (apply g_bin; first | exact WT_lss rfl rfl)); exact rfl))
    all_goals (first | (refine WPY_off 46 rfl (by decide +kernel) rfl (by repeat (first | exact np_ret)) rfl rfl rfl rfl rfl ?_) | (apply WPY_pure 46 rfl (by decide +kernel) rfl (by repeat (first | exact np_ret)) (guard_some rfl rfl rfl); (first | exact WT_move rfl); exact rfl))
    all_goals (first | (refine WPY_case 57 rfl (fun hb => ?_) (fun hb => ?_) <;> (repeat (first | replace hb := dec_t hb | replace hb := dec_f hb | replace hb := not_t hb | replace hb := not_f hb)) <;> (try (exfalso; first | (cases hb; done) | omega))) | skip)
    all_goals (first | (refine WPY_off 47 rfl (by decide +kernel) rfl (by repeat (first | exact np_ret)) rfl rfl rfl rfl rfl ?_) | (refine WPY_offu 47 rfl (by decide +kernel) rfl (by repeat (first | exact np_ret)) rfl rfl rfl rfl ?_) | (apply WPY_pure 47 rfl (by decide +kernel) rfl (by repeat (first | exact np_ret)) (guard_some rfl rfl rfl); (first | exact WT_move rfl); exact rfl))
    all_goals (first | (refine WPY_off 48 rfl (by decide +kernel) rfl (by repeat (first | exact np_ret)) rfl rfl rfl rfl rfl ?_) | (refine WPY_offu 48 rfl (by decide +kernel) rfl (by repeat (first | exact np_ret)) rfl rfl rfl rfl ?_) | (apply WPY_pure 48 rfl (by decide +kernel) rfl (by repeat (first | exact np_ret)) (guard_some rfl rfl rfl); (first | (apply g_bin; first | exact WT_neq rfl rfl)); exact rfl))
    all_goals (first | (refine WPY_off 49 rfl (by decide +kernel) rfl (by repeat (first | exact np_ret)) rfl rfl rfl rfl rfl ?_) | (apply WPY_pure 49 rfl (by decide +kernel) rfl (by repeat (first | exact np_ret)) (guard_some rfl rfl rfl); (first | exact WT_pick (b := true) rfl (fun _ => rfl) (fun e => by cases e) | exact WT_pick (b := false) rfl (fun e => by cases e) (fun _ => rfl)); exact rfl))
    all_goals ((apply WPY_pure 50 rfl (by decide +kernel) rfl (by repeat (first | exact np_ret)) guard_none; (first | exact WT_pick (b := true) rfl (fun _ => rfl) (fun e => by cases e) | exact WT_pick (b := false) rfl (fun e => by cases e) (fun _ => rfl)); exact rfl))
    all_goals ((apply WPY_pure 51 rfl (by decide +kernel) rfl (by repeat (first | exact np_ret)) guard_none; (first | exact WT_move rfl); exact rfl))
    all_goals (first | (refine WPY_case 62 rfl (fun hb => ?_) (fun hb => ?_) <;> (repeat (first | replace hb := dec_t hb | replace hb := dec_f hb | replace hb := not_t hb | replace hb := not_f hb)) <;> (try (exfalso; first | (cases hb; done) | omega))) | skip)
    all_goals (first | (refine WPY_off 52 rfl (by decide +kernel) rfl (by repeat (first | exact np_ret)) rfl rfl rfl rfl rfl ?_) | (apply WPY_pure 52 rfl (by decide +kernel) rfl (by repeat (first | exact np_ret)) (guard_some rfl rfl rfl); (first | exact WT_move rfl); exact rfl))
    all_goals (first | (refine WPY_off 53 rfl (by decide +kernel) rfl (by repeat (first | exact np_ret)) rfl rfl rfl rfl rfl ?_) | (apply WPY_pure 53 rfl (by decide +kernel) rfl (by repeat (first | exact np_ret)) (guard_some rfl rfl rfl); (first | (apply g_index; first | exact WT_index rfl rfl rfl)); exact rfl))
    all_goals (first | (refine WPY_off 54 rfl (by decide +kernel) rfl (by repeat (first | exact np_ret)) rfl rfl rfl rfl rfl ?_) | (apply WPY_take 54 rfl (by decide +kernel) rfl (by decide +kernel) (by repeat (first | exact np_ret)) (guard_some rfl rfl rfl); (first | (apply g_load; first | exact WT_loadf rfl rfl)); exact rfl))
    all_goals (first | (refine WPY_off 55 rfl (by decide +kernel) rfl (by repeat (first | exact np_ret)) rfl rfl rfl rfl rfl ?_) | (apply WPY_pure 55 rfl (by decide +kernel) rfl (by repeat (first | exact np_ret)) (guard_some rfl rfl rfl); (first | (apply g_bin; first | exact WT_rem rfl rfl)); exact rfl))
    all_goals (first | (refine WPY_off 56 rfl (by decide +kernel) rfl (by repeat (first | exact np_ret)) rfl rfl rfl rfl rfl ?_) | (apply WPY_pure 56 rfl (by decide +kernel) rfl (by repeat (first | exact np_ret)) (guard_some rfl rfl rfl); (first | (apply g_bin; first | exact WT_eql rfl rfl)); exact rfl))
    all_goals (first | (refine WPY_off 57 rfl (by decide +kernel) rfl (by repeat (first | exact np_ret)) rfl rfl rfl rfl rfl ?_) | (apply WPY_pure 57 rfl (by decide +kernel) rfl (by repeat (first | exact np_ret)) (guard_some rfl rfl rfl); (first | exact WT_move rfl); exact rfl))
    all_goals (first | (refine WPY_case 68 rfl (fun hb => ?_) (fun hb => ?_) <;> (repeat (first | replace hb := dec_t hb | replace hb := dec_f hb | replace hb := not_t hb | replace hb := not_f hb)) <;> (try (exfalso; first | (cases hb; done) | omega))) | skip)
    all_goals (first | (refine WPY_off 58 rfl (by decide +kernel) rfl (by repeat (first | exact np_ret)) rfl rfl rfl rfl rfl ?_) | (refine WPY_offu 58 rfl (by decide +kernel) rfl (by repeat (first | exact np_ret)) rfl rfl rfl rfl ?_) | (apply WPY_pure 58 rfl (by decide +kernel) rfl (by repeat (first | exact np_ret)) (guard_some rfl rfl rfl); (first | exact WT_move rfl); exact rfl))
    all_goals (first | (refine WPY_off 59 rfl (by decide +kernel) rfl (by repeat (first | exact np_ret)) rfl rfl rfl rfl rfl ?_) | (refine WPY_offu 59 rfl (by decide +kernel) rfl (by repeat (first | exact np_ret)) rfl rfl rfl rfl ?_) | (apply WPY_pure 59 rfl (by decide +kernel) rfl (by repeat (first | exact np_ret)) (guard_some rfl rfl rfl); (first | (apply g_bin; first | exact WT_eql rfl rfl)); exact rfl))
    all_goals (first | (refine WPY_off 60 rfl (by decide +kernel) rfl (by repeat (first | exact np_ret)) rfl rfl rfl rfl rfl ?_) | (apply WPY_pure 60 rfl (by decide +kernel) rfl (by repeat (first | exact np_ret)) (guard_some rfl rfl rfl); (first | exact WT_pick (b := true) rfl (fun _ => rfl) (fun e => by cases e) | exact WT_pick (b := false) rfl (fun e => by cases e) (fun _ => rfl)); exact rfl))
    all_goals ((apply WPY_pure 61 rfl (by decide +kernel) rfl (by repeat (first | exact np_ret)) guard_none; (first | exact WT_pick (b := true) rfl (fun _ => rfl) (fun e => by cases e) | exact WT_pick (b := false) rfl (fun e => by cases e) (fun _ => rfl)); exact rfl))
    all_goals (refine WPY_done (by decide +kernel) ?_)
    all_goals (refine cut_here _ ?_ (Leads_env (by repeat (first | exact sub_nil | refine sub_cons rfl ?_)) (List.Sublist.refl _)); clear h10 h11; unfold headR; simp only [IntKind.bits] at *; generalize numN (s.take 4) = a1 at *; generalize numN (s.drop 124) = a2 at *; generalize numN ((s.take 8).drop 4) = a3 at *; generalize sumF ((s.take 124).drop 8) = a4 at *; generalize numN ((s.take 10).drop 8) = a5 at *; generalize s[11].toNat = e at *; generalize s[10].toNat = k at *; rw [Bool.eq_iff_iff]; simp; omega)

end Go.Proofs.Ytmghnjahjeinnaa

/- Plain laws of the journal's sectors: no program in sight. -/
namespace Go.Proofs.Ytmghnjahjeinnaa
open Go.Fr

theorem numB_succ (m n : Nat) : numB (m + 1) n = numB m (n / 256) ++ [UInt8.ofNat n] := by
  unfold numB
  rw [List.range_succ, List.map_append]
  congr 1
  · refine List.map_congr_left fun j hj => ?_
    rw [List.mem_range] at hj
    rw [Nat.div_div_eq_div_mul, show 256 = 2 ^ 8 from rfl, ← Nat.pow_add, show 8 + 8 * (m - 1 - j) = 8 * (m + 1 - 1 - j) by omega]
  · simp
theorem numB_numN (l : List UInt8) : numB l.length (numN l) = l := by
  have key : ∀ k (l : List UInt8), l.length = k → numB k (numN l) = l := by
    intro k
    induction k with
    | zero => intro l h; rw [List.length_eq_zero_iff] at h; subst h; rfl
    | succ k ih =>
      intro l h
      have hne : l ≠ [] := by intro h0; subst h0; simp at h
      obtain ⟨l', c, rfl⟩ : ∃ l' c, l = l' ++ [c] := ⟨l.dropLast, l.getLast hne, (List.dropLast_concat_getLast hne).symm⟩
      have hl' : l'.length = k := by simpa using h
      rw [numN_snoc, numB_succ]
      have h1 : (256 * numN l' + c.toNat) / 256 = numN l' := by have := c.toNat_lt; omega
      have h2 : UInt8.ofNat (256 * numN l' + c.toNat) = c := by
        apply UInt8.toNat_inj.1
        have := c.toNat_lt
        simp
      rw [h1, h2, ih l' hl']
  exact key _ l rfl
theorem numN_numB (m n : Nat) (h : n < 256 ^ m) : numN (numB m n) = n := by
  induction m generalizing n with
  | zero => simp at h; subst h; rfl
  | succ m ih =>
    rw [numB_succ, numN_snoc, ih _ (by rw [Nat.pow_succ] at h; omega)]
    simp
    omega

theorem over_mid (a c d b : List UInt8) (off : Nat) (ha : a.length = off) (hc : c.length = b.length) : over (a ++ c ++ d) off b = a ++ b ++ d := by
  subst ha
  unfold over
  rw [← hc, List.append_assoc a c d, List.take_left, ← List.drop_drop, List.drop_left, List.drop_left]

/-- What the checksum is of. -/
def bodyF (n : Nat) (kind : UInt8) (b : List UInt8) : List UInt8 := numB 2 n ++ ([kind] ++ ([UInt8.ofNat b.length] ++ (b ++ List.replicate (112 - b.length) 0)))
theorem bodyF_length (n : Nat) (kind : UInt8) (b : List UInt8) (hb : b.length ≤ 112) : (bodyF n kind b).length = 116 := by
  simp [bodyF, numB_length]; omega
theorem encF_eq (g n : Nat) (kind : UInt8) (b : List UInt8) (hb : b.length ≤ 112) : encF g n kind b = numB 4 g ++ (numB 4 (sumF (bodyF n kind b)) ++ (bodyF n kind b ++ numB 4 g)) := by
  have hR : ∀ k, ∀ x : List UInt8, x.length = k → x.length = (List.replicate k (0 : UInt8)).length := fun k x h => by simp [h]
  have z : List.replicate 128 (0 : UInt8) = List.replicate 4 0 ++ (List.replicate 4 0 ++ (List.replicate 2 0 ++ (List.replicate 1 0 ++ (List.replicate 1 0 ++ (List.replicate b.length 0 ++ (List.replicate (112 - b.length) 0 ++ List.replicate 4 0)))))) := by
    simp only [List.replicate_append_replicate]; congr 1; omega
  have e1 : over (List.replicate 128 0) 0 (numB 4 g) = numB 4 g ++ (List.replicate 4 0 ++ (List.replicate 2 0 ++ (List.replicate 1 0 ++ (List.replicate 1 0 ++ (List.replicate b.length 0 ++ (List.replicate (112 - b.length) 0 ++ List.replicate 4 0)))))) := by
    rw [z]; exact over_mid [] _ _ _ 0 rfl (by simp [numB_length])
  have e2 := over_mid (numB 4 g ++ List.replicate 4 0) (List.replicate 2 0) (List.replicate 1 0 ++ (List.replicate 1 0 ++ (List.replicate b.length 0 ++ (List.replicate (112 - b.length) 0 ++ List.replicate 4 0)))) (numB 2 n) 8 (by simp [numB_length]) (by simp [numB_length])
  have e3 := over_mid (numB 4 g ++ (List.replicate 4 0 ++ numB 2 n)) (List.replicate 1 0) (List.replicate 1 0 ++ (List.replicate b.length 0 ++ (List.replicate (112 - b.length) 0 ++ List.replicate 4 0))) [kind] 10 (by simp [numB_length]) (by simp)
  have e4 := over_mid (numB 4 g ++ (List.replicate 4 0 ++ (numB 2 n ++ [kind]))) (List.replicate 1 0) (List.replicate b.length 0 ++ (List.replicate (112 - b.length) 0 ++ List.replicate 4 0)) [UInt8.ofNat b.length] 11 (by simp [numB_length]) (by simp)
  have e5 := over_mid (numB 4 g ++ (List.replicate 4 0 ++ (numB 2 n ++ ([kind] ++ [UInt8.ofNat b.length])))) (List.replicate b.length 0) (List.replicate (112 - b.length) 0 ++ List.replicate 4 0) b 12 (by simp [numB_length]) (by simp)
  have e6 := over_mid (numB 4 g ++ (List.replicate 4 0 ++ (numB 2 n ++ ([kind] ++ ([UInt8.ofNat b.length] ++ (b ++ List.replicate (112 - b.length) 0)))))) (List.replicate 4 0) [] (numB 4 g) 124 (by simp [numB_length]; omega) (by simp [numB_length])
  have e7 := over_mid (numB 4 g) (List.replicate 4 0) (bodyF n kind b ++ numB 4 g) (numB 4 (sumF (bodyF n kind b))) 4 (by simp [numB_length]) (by simp [numB_length])
  unfold encF
  dsimp only
  simp only [List.append_assoc, List.append_nil] at e2 e3 e4 e5 e6 e7
  rw [e1, e2, e3, e4, e5, e6]
  have hbd : numB 4 g ++ (List.replicate 4 0 ++ (numB 2 n ++ ([kind] ++ ([UInt8.ofNat b.length] ++ (b ++ (List.replicate (112 - b.length) 0 ++ numB 4 g)))))) = numB 4 g ++ (List.replicate 4 0 ++ (bodyF n kind b ++ numB 4 g)) := by simp [bodyF]
  have hd : ((numB 4 g ++ (List.replicate 4 0 ++ (bodyF n kind b ++ numB 4 g))).drop 8).take 116 = bodyF n kind b := by
    rw [← List.append_assoc, List.drop_left' (by simp [numB_length]), List.take_left' (bodyF_length n kind b hb)]
  rw [hbd, hd, e7]

theorem numB_iff (l : List UInt8) (m n : Nat) (hl : l.length = m) (hn : n < 256 ^ m) : l = numB m n ↔ numN l = n := by
  subst hl
  constructor
  · intro h; rw [h, numN_numB _ _ hn]
  · intro h; rw [← h, numB_numN]
theorem zeros_iff (l : List UInt8) (m : Nat) (hl : l.length = m) : l = List.replicate m 0 ↔ l.all (· == 0) = true := by
  subst hl
  rw [List.eq_replicate_iff]
  simp
theorem append_iff {α : Type} {a b c d : List α} (h : a.length = c.length) : a ++ b = c ++ d ↔ a = c ∧ b = d :=
  ⟨fun e => List.append_inj e h, fun ⟨x, y⟩ => by rw [x, y]⟩
theorem pre_iff (e k : Nat) (hk : k ≤ 3) (he : e ≤ 112) : ((k &&& 2 ≠ 0 ∨ 112 ≤ e) ∧ (k &&& 1 ≠ 0 ∨ e ≠ 0)) ↔ (¬ (k < 2 ∧ e ≠ 112) ∧ ¬ (k % 2 = 0 ∧ e = 0)) := by
  have : k = 0 ∨ k = 1 ∨ k = 2 ∨ k = 3 := by omega
  rcases this with rfl | rfl | rfl | rfl <;> simp <;> omega

theorem good_same (s : List UInt8) (n : Nat) (hs : s.length = 128) (hn : n < 2 ^ 16) : goodF s n = goodR s n := by
  have h10 : s[10]?.getD 0 = s[10] := by rw [List.getElem?_eq_getElem (by omega)]; rfl
  have h11 : s[11]?.getD 0 = s[11] := by rw [List.getElem?_eq_getElem (by omega)]; rfl
  unfold goodF goodR
  rw [h10, h11, getF_num _ (by rw [List.length_take]; omega)]
  by_cases he : s[11].toNat ≤ 112
  · by_cases hk : s[10].toNat ≤ 3
    · have hT := numB_iff (s.take 4) 4 (numN (s.take 4)) (by simp; omega) (by have := numN_lt (s.take 4); simpa [List.length_take, hs] using this)
      have hs1 : s = s.take 4 ++ ((s.take 8).drop 4 ++ ((s.take 124).drop 8 ++ s.drop 124)) := by
        have a1 : (s.take 124).drop 8 ++ s.drop 124 = s.drop 8 := by
          rw [List.drop_take, ← List.drop_drop (i := 116) (j := 8) (l := s)]
          exact List.take_append_drop 116 (s.drop 8)
        have a2 : (s.take 8).drop 4 ++ s.drop 8 = s.drop 4 := by
          rw [List.drop_take, ← List.drop_drop (i := 4) (j := 4) (l := s)]
          exact List.take_append_drop 4 (s.drop 4)
        rw [a1, a2, List.take_append_drop]
      have hb1 : (s.take 124).drop 8 = (s.take 10).drop 8 ++ ([s[10]] ++ ([s[11]] ++ ((s.drop 12).take s[11].toNat ++ (s.take 124).drop (12 + s[11].toNat)))) := by
        have hu : (s.take 124).length = 124 := by rw [List.length_take]; omega
        have b1 : (s.take 124).drop 8 = ((s.take 124).drop 8).take 2 ++ (s.take 124).drop 10 := by
          have := (List.take_append_drop 2 ((s.take 124).drop 8)).symm
          rwa [List.drop_drop] at this
        have b2 : (s.take 124).drop 10 = s[10] :: (s.take 124).drop 11 := by
          rw [List.drop_eq_getElem_cons (by omega), List.getElem_take]
        have b3 : (s.take 124).drop 11 = s[11] :: (s.take 124).drop 12 := by
          rw [List.drop_eq_getElem_cons (by omega), List.getElem_take]
        have b4 : (s.take 124).drop 12 = ((s.take 124).drop 12).take s[11].toNat ++ (s.take 124).drop (12 + s[11].toNat) := by
          have := (List.take_append_drop s[11].toNat ((s.take 124).drop 12)).symm
          rwa [List.drop_drop] at this
        have b5 : ((s.take 124).drop 8).take 2 = (s.take 10).drop 8 := by
          rw [List.drop_take, List.drop_take, List.take_take]; rfl
        have b6 : ((s.take 124).drop 12).take s[11].toNat = (s.drop 12).take s[11].toNat := by
          rw [List.drop_take, List.take_take, Nat.min_eq_left (by omega)]
        rw [b1, b2, b3, b4, b5, b6]; rfl
      have hlb : ((s.drop 12).take s[11].toNat).length = s[11].toNat := by simp; omega
      have henc := encF_eq (numN (s.take 4)) n s[10] ((s.drop 12).take s[11].toNat) (by omega)
      have key : s = encF (numN (s.take 4)) n s[10] ((s.drop 12).take s[11].toNat) ↔ (numN (s.take 4) = numN (s.drop 124) ∧ numN ((s.take 8).drop 4) = sumF ((s.take 124).drop 8) ∧ numN ((s.take 10).drop 8) = n ∧ ((s.take 124).drop (12 + s[11].toNat)).all (· == 0) = true) := by
        have hE := numB_iff (s.drop 124) 4 (numN (s.take 4)) (by simp; omega) (by have := numN_lt (s.take 4); simpa [List.length_take, hs] using this)
        have hB := numB_iff ((s.take 10).drop 8) 2 n (by simp; omega) (by omega)
        have hZ := zeros_iff ((s.take 124).drop (12 + s[11].toNat)) (112 - s[11].toNat) (by simp; omega)
        have h8 : UInt8.ofNat s[11].toNat = s[11] := by simp
        have hbody : (s.take 124).drop 8 = bodyF n s[10] ((s.drop 12).take s[11].toNat) ↔ (numN ((s.take 10).drop 8) = n ∧ ((s.take 124).drop (12 + s[11].toNat)).all (· == 0) = true) := by
          rw [hb1]; unfold bodyF
          rw [hlb, h8, append_iff (by rw [numB_length]; simp; omega), List.append_cancel_left_eq, List.append_cancel_left_eq, List.append_cancel_left_eq, hB, hZ]
        have hC := numB_iff ((s.take 8).drop 4) 4 (sumF ((s.take 124).drop 8)) (by simp; omega) (by have := sum_lt ((s.take 124).drop 8); omega)
        rw [henc]
        conv => lhs; lhs; rw [hs1]
        rw [append_iff (by rw [numB_length]; simp; omega), append_iff (by rw [numB_length]; simp; omega), append_iff (by rw [bodyF_length _ _ _ (by omega)]; simp; omega), hE, hbody, hT]
        constructor
        · rintro ⟨-, h2, h3, h4⟩
          refine ⟨h4.symm, ?_, h3⟩
          rw [← hbody.2 h3] at h2
          exact hC.1 h2
        · rintro ⟨h1, h2, h3⟩
          refine ⟨rfl, ?_, h3, h1.symm⟩
          rw [← hbody.2 h3]
          exact hC.2 h2
      have hmod : numN ((s.take 8).drop 4) % 2 ^ 32 = numN ((s.take 8).drop 4) := Nat.mod_eq_of_lt (by
        have := numN_lt ((s.take 8).drop 4)
        rw [show ((s.take 8).drop 4).length = 4 by simp; omega] at this
        omega)
      have hp := pre_iff s[11].toNat s[10].toNat hk he
      unfold preF headR
      rw [Bool.eq_iff_iff, hmod]
      simp only [Bool.and_eq_true, decide_eq_true_eq, beq_iff_eq, key, Bool.or_eq_true, Bool.not_eq_true', Bool.and_eq_false_iff, decide_eq_false_iff_not]
      generalize s[11].toNat = e at *
      generalize s[10].toNat = k at *
      constructor
      · rintro ⟨⟨-, -, h1, h2⟩, h3, h4, h5, h6, h7⟩
        have := hp.1 ⟨h1, h2⟩
        refine ⟨⟨by omega, h4, h5, h6, hk, he, by omega, by omega⟩, h7⟩
      · rintro ⟨⟨h1, h4, h5, h6, -, -, h8, h9⟩, h7⟩
        have := hp.2 ⟨by omega, by omega⟩
        exact ⟨⟨he, hk, this.1, this.2⟩, by omega, h4, h5, h6, h7⟩
    · have a1 : preF s[11].toNat s[10].toNat = false := by unfold preF; simp [hk]
      have a2 : headR s n s[11].toNat s[10].toNat = false := by unfold headR; simp [hk]
      rw [a1, a2]; rfl
  · have a1 : preF s[11].toNat s[10].toNat = false := by unfold preF; simp [he]
    have a2 : headR s n s[11].toNat s[10].toNat = false := by unfold headR; simp [he]
    rw [a1, a2]; rfl

end Go.Proofs.Ytmghnjahjeinnaa

/- The reference's record. -/
namespace Go.Proofs.Ytmghnjahjeinnaa
open Go Go.RowKit Go.Kx Go.Fr

/-- The sector at i, its kind, its payload. -/
def secAt (o : List (List UInt8)) (i : Nat) : List UInt8 := o[i]?.getD []
def kindS (s : List UInt8) : Nat := (s[10]?.getD 0).toNat
def payS (s : List UInt8) : List UInt8 := (s.take (12 + (s[11]?.getD 0).toNat)).drop 12
def badR (o : List (List UInt8)) (n i : Nat) : Bool :=
  !goodR (secAt o (n + i)) (n + i) || (decide (kindS (secAt o (n + i)) % 2 = 1) != decide (i = 0) || (decide (0 < i) && decide (numN ((secAt o (n + i)).take 4) ≠ numN ((secAt o n).take 4))))
def recR (o : List (List UInt8)) (n : Nat) : Nat → Nat → List UInt8 → List UInt8 × Nat
  | 0, _, _ => ([], 0)
  | f + 1, i, acc =>
    if n + i < o.length then
      if badR o n i then ([], 0)
      else if 2 ≤ kindS (secAt o (n + i)) then (acc ++ payS (secAt o (n + i)), i + 1)
      else recR o n f (i + 1) (acc ++ payS (secAt o (n + i)))
    else ([], 0)
def recordR (o : List (List UInt8)) (n : Nat) : List UInt8 × Nat := recR o n (o.length + 1) 0 []

theorem goodR_len {s : List UInt8} {n : Nat} (h : goodR s n = true) : (s[11]?.getD 0).toNat ≤ 112 := by
  unfold goodR headR at h
  simp only [Bool.and_eq_true, decide_eq_true_eq] at h
  exact h.1.2.2.2.2.2.1

set_option maxHeartbeats 4000000 in
set_option maxRecDepth 100000 in
theorem record_any (o : List (List UInt8)) (n : Nat) (ho : o.length < 2 ^ 16) (hall : ∀ s ∈ o, s.length = 128) (hn : n ≤ o.length) : FnC Try.prog 62 [isl (eSl eByte) o, exI .i64 n] [] (fun p loc => p = tup [isl eByte (recordR o n).1, exI .i64 (recordR o n).2] ∧ loc = []) := by
  refine FnC_enter Try.func62 rfl Try.ntmps62 rfl fun w0 F0 out => ?_
  (repeat' (first | refine WP_seq ?_ | refine WP_region ?_ | refine WPL_nil ?_ | (apply WPL_t; (first | exact WT_assign rfl); exact rfl) | refine WP_block ?_ | (apply WPL_op0; exact rfl; first | (apply g_bslice; (first | refine WO_bslice0 rfl ?_); intro _))))
  rename_i blk
  refine WP_loop (fun x : Value × Nat × List UInt8 => ([(0, isl (eSl eByte) o), (1, exI .i64 n), (6, ex x.1), (7, exI .i64 x.2.1)], [vec x.1 5 1 x.2.2.length (x.2.2.map ub)])) (fun x => n + x.2.1 ≤ o.length ∧ x.2.2.length ≤ 112 * x.2.1 ∧ recordR o n = recR o n (o.length + 1 - x.2.1) x.2.1 x.2.2) (fun x => o.length - (n + x.2.1)) (.slice (some ⟨blk, 0, none⟩) 0 0, 0, []) ?_ ⟨by omega, by simp, rfl⟩ fun x hx => ?_
  · exact Leads_then (LeadsS_row_vec (k := 0) (n := 0) (c := 0) (sz := 1) rfl rfl rfl (by decide) (by decide)) (Leads_env (by repeat (first | exact sub_nil | refine sub_cons rfl ?_)) (List.Sublist.refl _))
  obtain ⟨v, i, acc⟩ := x
  obtain ⟨hi1, hi2, hi3⟩ := hx
  dsimp only at hi1 hi2 hi3 ⊢
  have hrec : recR o n (o.length + 1 - i) i acc = if n + i < o.length then (if badR o n i then ([], 0) else if 2 ≤ kindS (secAt o (n + i)) then (acc ++ payS (secAt o (n + i)), i + 1) else recR o n (o.length + 1 - (i + 1)) (i + 1) (acc ++ payS (secAt o (n + i)))) else ([], 0) := by
    rw [show o.length + 1 - i = (o.length + 1 - (i + 1)) + 1 by omega]; rfl
  (repeat' (first | (apply cut_at 6; refine WP_cutR 6 (fun b : Bool => ([(0, isl (eSl eByte) o), (1, exI .i64 n), (6, ex v), (7, exI .i64 i), (8, isl eByte (secAt o (n + i))), (55, exB b)], [vec v 5 1 acc.length (acc.map ub)])) (fun b => b = badR o n i) ?_ fun b hb0 => ?_) | refine WP_seq ?_ | refine WP_region ?_ | refine WPL_nil ?_ | (apply WPL_t; (first | exact WT_move rfl | exact WT_assign rfl | (apply g_load; first | exact WT_loadf rfl rfl) | (apply g_bin; first | exact WT_lss rfl rfl | exact WT_add rfl rfl) | (apply g_index; first | exact WT_index rfl rfl rfl) | (apply g_call; first | exact WT_len rfl rfl)); exact rfl) | refine WP_block ?_ | refine WP_skip ?_ | refine WP_ret ?_ | refine WP_exit ?_ | (refine WP_cond rfl (fun hb => ?_) (fun hb => ?_) <;> (repeat (first | replace hb := dec_t hb | replace hb := dec_f hb)) <;> (try (exfalso; first | fail)))))
  · have hlt : n + i < o.length := by omega
    have hsec : secAt o (n + i) = o[n + i] := by unfold secAt; rw [List.getElem?_eq_getElem hlt]; rfl
    have hsn : secAt o n = o[n] := by unfold secAt; rw [List.getElem?_eq_getElem (by omega)]; rfl
    have hs1 : o[n + i].length = 128 := hall _ (List.getElem_mem _)
    have hs2 : o[n].length = 128 := hall _ (List.getElem_mem _)
    have hk10 : kindS (secAt o (n + i)) = o[n + i][10].toNat := by unfold kindS; rw [hsec, List.getElem?_eq_getElem (by omega)]; rfl
    (refine WP_drawl 32 rfl ?_)
    all_goals ((apply WPY_pure 0 rfl (by decide +kernel) rfl (by repeat (first | exact np_ret)) guard_none; (first | exact WT_move rfl); exact rfl))
    all_goals ((apply WPY_pure 1 rfl (by decide +kernel) rfl (by repeat (first | exact np_ret)) guard_none; (first | exact WT_move rfl); exact rfl))
    all_goals ((apply WPY_pure 2 rfl (by decide +kernel) rfl (by repeat (first | exact np_ret)) guard_none; (first | exact WT_move rfl); exact rfl))
    all_goals ((apply WPY_pure 3 rfl (by decide +kernel) rfl (by repeat (first | exact np_ret)) guard_none; (first | (apply g_bin; first | exact WT_add rfl rfl)); exact rfl))
    all_goals (first | (apply WPY_one 4; exact (by decide +kernel); exact rfl; exact guard_none; exact (fun _ _ h => h); first | (apply g_callf; first | (refine WO_call Try.func72 rfl (goodR_any _ _ (by assumption) (by omega)) rfl ?_; rintro _ _ ⟨rfl, rfl⟩))))
    all_goals ((apply WPY_pure 5 rfl (by decide +kernel) rfl (by repeat (first | exact np_ret)) guard_none; (first | (apply g_un; first | exact WT_not rfl)); exact rfl))
    all_goals ((apply WPY_pure 6 rfl (by decide +kernel) rfl (by repeat (first | exact np_ret)) guard_none; (first | exact WT_move rfl); exact rfl))
    all_goals (first | (refine WPY_case 30 rfl (fun hb => ?_) (fun hb => ?_) <;> (repeat (first | replace hb := dec_t hb | replace hb := dec_f hb | replace hb := not_t hb | replace hb := not_f hb)) <;> (try (exfalso; first | (cases hb; done) | omega))) | skip)
    all_goals (first | (refine WPY_off 7 rfl (by decide +kernel) rfl (by repeat (first | exact np_ret)) rfl rfl rfl rfl rfl ?_) | (apply WPY_pure 7 rfl (by decide +kernel) rfl (by repeat (first | exact np_ret)) (guard_some rfl rfl rfl); (first | exact WT_move rfl); exact rfl))
    all_goals (first | (refine WPY_off 8 rfl (by decide +kernel) rfl (by repeat (first | exact np_ret)) rfl rfl rfl rfl rfl ?_) | (apply WPY_pure 8 rfl (by decide +kernel) rfl (by repeat (first | exact np_ret)) (guard_some rfl rfl rfl); (first | (apply g_index; first | exact WT_index rfl rfl rfl)); exact rfl))
    all_goals (first | (refine WPY_off 9 rfl (by decide +kernel) rfl (by repeat (first | exact np_ret)) rfl rfl rfl rfl rfl ?_) | (apply WPY_take 9 rfl (by decide +kernel) rfl (by decide +kernel) (by repeat (first | exact np_ret)) (guard_some rfl rfl rfl); (first | (apply g_load; first | exact WT_loadf rfl rfl)); exact rfl))
    all_goals (first | (refine WPY_off 10 rfl (by decide +kernel) rfl (by repeat (first | exact np_ret)) rfl rfl rfl rfl rfl ?_) | (apply WPY_pure 10 rfl (by decide +kernel) rfl (by repeat (first | exact np_ret)) (guard_some rfl rfl rfl); (first | (apply g_bin; first | exact WT_rem rfl rfl)); exact rfl))
    all_goals (first | (refine WPY_off 11 rfl (by decide +kernel) rfl (by repeat (first | exact np_ret)) rfl rfl rfl rfl rfl ?_) | (apply WPY_pure 11 rfl (by decide +kernel) rfl (by repeat (first | exact np_ret)) (guard_some rfl rfl rfl); (first | (apply g_bin; first | exact WT_eql rfl rfl)); exact rfl))
    all_goals (first | (refine WPY_off 12 rfl (by decide +kernel) rfl (by repeat (first | exact np_ret)) rfl rfl rfl rfl rfl ?_) | (apply WPY_pure 12 rfl (by decide +kernel) rfl (by repeat (first | exact np_ret)) (guard_some rfl rfl rfl); (first | exact WT_move rfl); exact rfl))
    all_goals (first | (refine WPY_off 13 rfl (by decide +kernel) rfl (by repeat (first | exact np_ret)) rfl rfl rfl rfl rfl ?_) | (apply WPY_pure 13 rfl (by decide +kernel) rfl (by repeat (first | exact np_ret)) (guard_some rfl rfl rfl); (first | (apply g_bin; first | exact WT_eql rfl rfl)); exact rfl))
    all_goals (first | (refine WPY_off 14 rfl (by decide +kernel) rfl (by repeat (first | exact np_ret)) rfl rfl rfl rfl rfl ?_) | (apply WPY_pure 14 rfl (by decide +kernel) rfl (by repeat (first | exact np_ret)) (guard_some rfl rfl rfl); (first | (apply g_bin; first | exact WT_bne rfl rfl rfl)); exact rfl))
    all_goals ((apply WPY_pure 15 rfl (by decide +kernel) rfl (by repeat (first | exact np_ret)) guard_none; (first | exact WT_pick (b := true) rfl (fun _ => rfl) (fun e => by cases e) | exact WT_pick (b := false) rfl (fun e => by cases e) (fun _ => rfl)); exact rfl))
    all_goals ((apply WPY_pure 16 rfl (by decide +kernel) rfl (by repeat (first | exact np_ret)) guard_none; (first | exact WT_move rfl); exact rfl))
    all_goals (first | (refine WPY_case 40 rfl (fun hb => ?_) (fun hb => ?_) <;> (repeat (first | replace hb := dec_t hb | replace hb := dec_f hb | replace hb := not_t hb | replace hb := not_f hb)) <;> (try (exfalso; first | (cases hb; done) | omega))) | skip)
    all_goals (first | (refine WPY_off 17 rfl (by decide +kernel) rfl (by repeat (first | exact np_ret)) rfl rfl rfl rfl rfl ?_) | (apply WPY_pure 17 rfl (by decide +kernel) rfl (by repeat (first | exact np_ret)) (guard_some rfl rfl rfl); (first | exact WT_move rfl); exact rfl))
    all_goals (first | (refine WPY_off 18 rfl (by decide +kernel) rfl (by repeat (first | exact np_ret)) rfl rfl rfl rfl rfl ?_) | (apply WPY_pure 18 rfl (by decide +kernel) rfl (by repeat (first | exact np_ret)) (guard_some rfl rfl rfl); (first | (apply g_bin; first | exact WT_gtr rfl rfl)); exact rfl))
    all_goals (first | (refine WPY_off 19 rfl (by decide +kernel) rfl (by repeat (first | exact np_ret)) rfl rfl rfl rfl rfl ?_) | (apply WPY_pure 19 rfl (by decide +kernel) rfl (by repeat (first | exact np_ret)) (guard_some rfl rfl rfl); (first | exact WT_move rfl); exact rfl))
    all_goals (first | (refine WPY_case 43 rfl (fun hb => ?_) (fun hb => ?_) <;> (repeat (first | replace hb := dec_t hb | replace hb := dec_f hb | replace hb := not_t hb | replace hb := not_f hb)) <;> (try (exfalso; first | (cases hb; done) | omega))) | skip)
    all_goals (first | (refine WPY_off 20 rfl (by decide +kernel) rfl (by repeat (first | exact np_ret)) rfl rfl rfl rfl rfl ?_) | (refine WPY_offu 20 rfl (by decide +kernel) rfl (by repeat (first | exact np_ret)) rfl rfl rfl rfl ?_) | (apply WPY_pure 20 rfl (by decide +kernel) rfl (by repeat (first | exact np_ret)) (guard_some rfl rfl rfl); (first | exact WT_move rfl); exact rfl))
    all_goals (first | (refine WPY_off 21 rfl (by decide +kernel) rfl (by repeat (first | exact np_ret)) rfl rfl rfl rfl rfl ?_) | (refine WPY_offu 21 rfl (by decide +kernel) rfl (by repeat (first | exact np_ret)) rfl rfl rfl rfl ?_) | (apply WPY_pure 21 rfl (by decide +kernel) rfl (by repeat (first | exact np_ret)) (guard_some rfl rfl rfl); (first | (apply g_slice; first | exact WT_slch rfl rfl rfl)); exact rfl))
    all_goals (first | (refine WPY_off 23 rfl (by decide +kernel) rfl (by repeat (first | exact np_ret)) rfl rfl rfl rfl rfl ?_) | (refine WPY_offu 23 rfl (by decide +kernel) rfl (by repeat (first | exact np_ret)) rfl rfl rfl rfl ?_) | (apply WPY_pure 23 rfl (by decide +kernel) rfl (by repeat (first | exact np_ret)) (guard_some rfl rfl rfl); (first | exact WT_move rfl); exact rfl))
    all_goals (first | (refine WPY_off 24 rfl (by decide +kernel) rfl (by repeat (first | exact np_ret)) rfl rfl rfl rfl rfl ?_) | (refine WPY_offu 24 rfl (by decide +kernel) rfl (by repeat (first | exact np_ret)) rfl rfl rfl rfl ?_) | (apply WPY_pure 24 rfl (by decide +kernel) rfl (by repeat (first | exact np_ret)) (guard_some rfl rfl rfl); (first | exact WT_move rfl); exact rfl))
    all_goals (first | (refine WPY_off 25 rfl (by decide +kernel) rfl (by repeat (first | exact np_ret)) rfl rfl rfl rfl rfl ?_) | (refine WPY_offu 25 rfl (by decide +kernel) rfl (by repeat (first | exact np_ret)) rfl rfl rfl rfl ?_) | (apply WPY_pure 25 rfl (by decide +kernel) rfl (by repeat (first | exact np_ret)) (guard_some rfl rfl rfl); (first | (apply g_index; first | exact WT_index rfl rfl rfl)); exact rfl))
    all_goals (first | (refine WPY_off 26 rfl (by decide +kernel) rfl (by repeat (first | exact np_ret)) rfl rfl rfl rfl rfl ?_) | (refine WPY_offu 26 rfl (by decide +kernel) rfl (by repeat (first | exact np_ret)) rfl rfl rfl rfl ?_) | (apply WPY_take 26 rfl (by decide +kernel) rfl (by decide +kernel) (by repeat (first | exact np_ret)) (guard_some rfl rfl rfl); (first | (apply g_load; first | exact WT_loadf rfl rfl)); exact rfl))
    all_goals (first | (refine WPY_off 27 rfl (by decide +kernel) rfl (by repeat (first | exact np_ret)) rfl rfl rfl rfl rfl ?_) | (refine WPY_offu 27 rfl (by decide +kernel) rfl (by repeat (first | exact np_ret)) rfl rfl rfl rfl ?_) | (apply WPY_pure 27 rfl (by decide +kernel) rfl (by repeat (first | exact np_ret)) (guard_some rfl rfl rfl); (first | (apply g_slice; first | exact WT_slch rfl rfl rfl)); exact rfl))
    all_goals (first | (refine WPY_off 22 rfl (by decide +kernel) rfl (by repeat (first | exact np_ret)) rfl rfl rfl rfl rfl ?_) | (refine WPY_offu 22 rfl (by decide +kernel) rfl (by repeat (first | exact np_ret)) rfl rfl rfl rfl ?_) | (apply WPY_one 22; exact (by decide +kernel); exact rfl; exact (guard_some rfl rfl rfl); exact (fun _ _ h => h); first | (apply g_callf; first | (refine WO_call Try.func63 rfl (number_any _ (by simp only [List.length_take, List.length_drop]; omega)) rfl ?_; rintro _ _ ⟨rfl, rfl⟩))))
    all_goals (first | (refine WPY_off 28 rfl (by decide +kernel) rfl (by repeat (first | exact np_ret)) rfl rfl rfl rfl rfl ?_) | (refine WPY_offu 28 rfl (by decide +kernel) rfl (by repeat (first | exact np_ret)) rfl rfl rfl rfl ?_) | (apply WPY_one 28; exact (by decide +kernel); exact rfl; exact (guard_some rfl rfl rfl); exact (fun _ _ h => h); first | (apply g_callf; first | (refine WO_call Try.func63 rfl (number_any _ (by simp only [List.length_take, List.length_drop]; omega)) rfl ?_; rintro _ _ ⟨rfl, rfl⟩))))
    all_goals (first | (refine WPY_off 29 rfl (by decide +kernel) rfl (by repeat (first | exact np_ret)) rfl rfl rfl rfl rfl ?_) | (refine WPY_offu 29 rfl (by decide +kernel) rfl (by repeat (first | exact np_ret)) rfl rfl rfl rfl ?_) | (apply WPY_pure 29 rfl (by decide +kernel) rfl (by repeat (first | exact np_ret)) (guard_some rfl rfl rfl); (first | (apply g_bin; first | exact WT_neq rfl rfl)); exact rfl))
    all_goals (first | (refine WPY_off 30 rfl (by decide +kernel) rfl (by repeat (first | exact np_ret)) rfl rfl rfl rfl rfl ?_) | (apply WPY_pure 30 rfl (by decide +kernel) rfl (by repeat (first | exact np_ret)) (guard_some rfl rfl rfl); (first | exact WT_pick (b := true) rfl (fun _ => rfl) (fun e => by cases e) | exact WT_pick (b := false) rfl (fun e => by cases e) (fun _ => rfl)); exact rfl))
    all_goals ((apply WPY_pure 31 rfl (by decide +kernel) rfl (by repeat (first | exact np_ret)) guard_none; (first | exact WT_pick (b := true) rfl (fun _ => rfl) (fun e => by cases e) | exact WT_pick (b := false) rfl (fun e => by cases e) (fun _ => rfl)); exact rfl))
    all_goals (refine WPY_done (by decide +kernel) ?_)
    all_goals (refine cut_here _ ?_ (Leads_env (by rw [hsec]; repeat (first | exact sub_nil | refine sub_cons rfl ?_)) (List.Sublist.refl _)); unfold badR; rw [hk10, hsec, hsn]; clear hrec hi3; generalize numN (o[n + i].take 4) = a1 at *; generalize numN (o[n].take 4) = a2 at *; generalize goodR o[n + i] (n + i) = g at *; generalize o[n + i][10].toNat = k at *; rw [Bool.eq_iff_iff]; simp_all; try omega)
  · refine retP_leads ((LeadsS_nil (E := eByte) (t := 4) rfl).leads) ⟨.inr rfl, ret2 rfl (.tmp rfl) (.tmp rfl) (List.nil_sublist _) ⟨?_, rfl⟩⟩
    rw [hi3, hrec, if_pos (by omega), if_pos (by rw [← hb0]; assumption)]
    rfl
  · have hlt : n + i < o.length := by omega
    have hsec : secAt o (n + i) = o[n + i] := by unfold secAt; rw [List.getElem?_eq_getElem hlt]; rfl
    have hs1 : (secAt o (n + i)).length = 128 := by rw [hsec]; exact hall _ (List.getElem_mem _)
    have hu11 := (secAt o (n + i))[11].toNat_lt
    have hk10 : kindS (secAt o (n + i)) = (secAt o (n + i))[10].toNat := by unfold kindS; rw [List.getElem?_eq_getElem (by omega)]; rfl
    have hpay : payS (secAt o (n + i)) = ((secAt o (n + i)).take (12 + (secAt o (n + i))[11].toNat)).drop 12 := by unfold payS; rw [List.getElem?_eq_getElem (by omega)]; rfl
    have hgood : goodR (secAt o (n + i)) (n + i) = true := by
      have h0 : badR o n i = false := by rw [← hb0]; assumption
      unfold badR at h0
      simp only [Bool.or_eq_false_iff] at h0
      simpa using h0.1
    have he112 : (secAt o (n + i))[11].toNat ≤ 112 := by
      have := goodR_len hgood
      rwa [List.getElem?_eq_getElem (by omega)] at this
    have hpl : (((secAt o (n + i)).take (12 + (secAt o (n + i))[11].toNat)).drop 12).length = (secAt o (n + i))[11].toNat := by rw [List.length_drop, List.length_take]; omega
    (repeat' (first | refine WP_seq ?_ | refine WP_region ?_ | refine WPL_nil ?_ | (apply WPL_t; (first | exact WT_move rfl | exact WT_assign rfl | (apply g_load; first | exact WT_loadf rfl rfl) | (apply g_bin; first | exact WT_geq rfl rfl | exact WT_add rfl rfl) | (apply g_index; first | exact WT_index rfl rfl rfl) | (apply g_slice; first | exact WT_slc rfl rfl rfl rfl) | (apply g_conv; first | exact WT_convb rfl rfl rfl)); exact rfl) | refine WP_skip ?_ | refine WP_ret ?_ | (apply WPL_op0; exact rfl; first | (apply g_append; (first | (refine WO_append (k := 0) (l0 := []) rfl rfl (by first | exact Src_isl rfl) rfl ?_)); intro _)) | (refine WP_cond rfl (fun hb => ?_) (fun hb => ?_) <;> (repeat (first | replace hb := dec_t hb | replace hb := dec_f hb)) <;> (try (exfalso; first | fail)))))
    all_goals (rw [show acc.map ub ++ (((secAt o (n + i)).take (12 + (secAt o (n + i))[11].toNat)).drop 12).flatMap byV = (acc ++ payS (secAt o (n + i))).map ub by rw [flat_byV, ← List.map_append, hpay], show acc.length + (((secAt o (n + i)).take (12 + (secAt o (n + i))[11].toNat)).drop 12).length = (acc ++ payS (secAt o (n + i))).length by rw [List.length_append, hpay]])
    · have hl2 : (acc ++ payS (secAt o (n + i))).length ≤ 112 * (i + 1) := by rw [List.length_append, hpay, hpl]; omega
      apply retP_leads
      · apply Leads_vbytes (l1 := []) (l2 := []) (t := 4) <;> first | exact rfl | omega
      · refine ⟨.inr rfl, ret2 rfl (.tmp rfl) (.tmp rfl) (List.nil_sublist _) ⟨?_, rfl⟩⟩
        rw [hi3, hrec, if_pos hlt, if_neg (by rw [← hb0]; simp_all), if_pos (by rw [hk10]; omega)]
        rfl
    · rename_i v'
      have hl2 : (acc ++ payS (secAt o (n + i))).length ≤ 112 * (i + 1) := by rw [List.length_append, hpay, hpl]; omega
      refine ⟨(v', i + 1, acc ++ payS (secAt o (n + i))), ⟨by dsimp only; omega, hl2, ?_⟩, by dsimp only; omega, Leads_env (by repeat (first | exact sub_nil | refine sub_cons rfl ?_)) (List.Sublist.refl _)⟩
      rw [hi3, hrec, if_pos hlt, if_neg (by rw [← hb0]; simp_all), if_neg (by rw [hk10]; omega)]
  · refine retP_leads ((LeadsS_nil (E := eByte) (t := 4) rfl).leads) ⟨.inr rfl, ret2 rfl (.tmp rfl) (.tmp rfl) (List.nil_sublist _) ⟨?_, rfl⟩⟩
    rw [hi3, hrec, if_neg (by omega)]
    rfl

end Go.Proofs.Ytmghnjahjeinnaa

/- The reference's Records. -/
namespace Go.Proofs.Ytmghnjahjeinnaa
open Go Go.RowKit Go.Kx Go.Fr

theorem recR_bound (o : List (List UInt8)) (n : Nat) (f i : Nat) (acc : List UInt8) : (recR o n f i acc).2 = 0 ∨ (i < (recR o n f i acc).2 ∧ n + (recR o n f i acc).2 ≤ o.length) := by
  induction f generalizing i acc with
  | zero => exact .inl rfl
  | succ f ih =>
    unfold recR
    split
    · split
      · exact .inl rfl
      · split
        · right; constructor <;> dsimp only <;> omega
        · rcases ih (i + 1) (acc ++ payS (secAt o (n + i))) with h | h
          · exact .inl h
          · exact .inr ⟨by omega, h.2⟩
    · exact .inl rfl
def recsR (o : List (List UInt8)) : Nat → Nat → Nat → List (List UInt8) → List (List UInt8)
  | 0, _, _, acc => acc
  | f + 1, i, gen, acc =>
    if (recordR o i).2 = 0 ∨ numN ((secAt o i).take 4) < gen then acc
    else recsR o f (i + (recordR o i).2) (numN ((secAt o i).take 4)) (acc ++ [(recordR o i).1])
def recordsR (o : List (List UInt8)) : List (List UInt8) := recsR o (o.length + 1) 0 0 []

theorem recordR_eq (o : List (List UInt8)) (n : Nat) : recordR o n = recR o n (o.length + 1) 0 [] := rfl
theorem recsR_succ (o : List (List UInt8)) (f i gen : Nat) (acc : List (List UInt8)) : recsR o (f + 1) i gen acc = if (recordR o i).2 = 0 ∨ numN ((secAt o i).take 4) < gen then acc else recsR o f (i + (recordR o i).2) (numN ((secAt o i).take 4)) (acc ++ [(recordR o i).1]) := rfl
attribute [local irreducible] recordR numN recordsR recsR

set_option maxHeartbeats 400000 in
set_option maxRecDepth 100000 in
theorem records_any (o : List (List UInt8)) (ho : o.length < 2 ^ 16) (hall : ∀ s ∈ o, s.length = 128) : FnC Try.prog 34 [isl (eSl eByte) o] [] (fun p loc => p = isl (eSl eByte) (recordsR o) ∧ loc = []) := by
  refine FnC_enter Try.func34 rfl Try.ntmps34 rfl fun w0 F0 out => ?_
  (repeat' (first | refine WP_seq ?_ | refine WP_region ?_ | refine WPL_nil ?_ | (apply WPL_t; (first | exact WT_assign rfl); exact rfl) | refine WP_block ?_ | (apply WPL_op0; exact rfl; first | (apply g_bslice; (first | refine WO_bslice0 rfl ?_); intro _))))
  rename_i blk
  refine WP_loop (fun x : Value × Nat × Nat × List (List UInt8) => ([(0, isl (eSl eByte) o), (3, ex x.1), (4, exI .i64 x.2.1), (5, exI .u64 x.2.2.1)], [vec x.1 35 1 x.2.2.2.length (x.2.2.2.map (isl eByte))])) (fun x => x.2.1 ≤ o.length ∧ x.2.2.2.length ≤ x.2.1 ∧ x.2.2.1 < 2 ^ 64 ∧ ∃ f, o.length + 1 = f + x.2.2.2.length ∧ recordsR o = recsR o f x.2.1 x.2.2.1 x.2.2.2) (fun x => o.length - x.2.1) (.slice (some ⟨blk, 0, none⟩) 0 0, 0, 0, []) ?_ ⟨Nat.zero_le _, by simp, by show 0 < 2 ^ 64; decide, o.length + 1, rfl, by unfold recordsR; rfl⟩ fun x hx => ?_
  · exact Leads_then (LeadsS_row_vec (k := 0) (n := 0) (c := 0) (sz := 1) rfl rfl rfl (by decide) (by decide)) (Leads_env (by repeat (first | exact sub_nil | refine sub_cons rfl ?_)) (List.Sublist.refl _))
  obtain ⟨v, i, gen, acc⟩ := x
  obtain ⟨hi1, hi2, hi3, f, hf, hi4⟩ := hx
  dsimp only at hi1 hi2 hi3 hf hi4 ⊢
  (repeat' (first | refine WP_seq ?_ | refine WP_region ?_ | (apply WPL_t; (first | exact WT_move rfl); exact rfl) | refine WP_block ?_))
  apply WPL_op0; exact rfl; apply g_callf
  refine WO_call Try.func62 rfl (record_any o i ho hall hi1) rfl ?_
  rintro _ _ ⟨rfl, rfl⟩
  have hbd : (recordR o i).2 = 0 ∨ (0 < (recordR o i).2 ∧ i + (recordR o i).2 ≤ o.length) := by rw [recordR_eq]; exact recR_bound o i _ 0 []
  have hstep : ∀ f', f = f' + 1 → recsR o f i gen acc = if (recordR o i).2 = 0 ∨ numN ((secAt o i).take 4) < gen then acc else recsR o f' (i + (recordR o i).2) (numN ((secAt o i).take 4)) (acc ++ [(recordR o i).1]) := by
    intro f' hf'; rw [hf', recsR_succ]
  generalize hr : recordR o i = r at hbd hstep ⊢
  obtain ⟨pay, cnt⟩ := r
  dsimp only at hbd hstep ⊢
  have hcnt : cnt = 0 ∨ i < o.length := by omega
  rcases hcnt with h0 | hlt
  · subst h0
    (repeat' (first | refine WP_seq ?_ | refine WP_region ?_ | refine WPL_nil ?_ | (apply WPL_t; (first | exact WT_move rfl | exact WT_assign rfl | exact WT_pick (b := true) rfl (fun _ => rfl) (fun e => by cases e) | exact WT_extract rfl rfl | (apply g_bin; first | exact WT_eql rfl rfl)); exact rfl) | (refine WPL_off rfl rfl rfl rfl rfl ?_) | refine WP_ret ?_ | refine WP_cond_t rfl ?_))
    apply retP_leads
    · apply Leads_vsl (E := eByte) (l1 := []) (l2 := []) (t := 2) <;> first | exact rfl | omega
    · refine ⟨.inr rfl, ret1 rfl (.tmp rfl) (List.nil_sublist _) ⟨congrArg _ ?_, rfl⟩⟩
      rw [hi4, hstep (f - 1) (by omega), if_pos (.inl rfl)]
  · have hs1 : o[i].length = 128 := hall _ (List.getElem_mem _)
    have hsec : secAt o i = o[i] := by unfold secAt; rw [List.getElem?_eq_getElem hlt]; rfl
    rw [hsec] at hstep
    (repeat' (first | refine WP_seq ?_ | refine WP_region ?_ | refine WPL_nil ?_ | (apply WPL_t; (first | exact WT_move rfl | exact WT_assign rfl | exact WT_pick (b := true) rfl (fun _ => rfl) (fun e => by cases e) | exact WT_pick (b := false) rfl (fun e => by cases e) (fun _ => rfl) | exact WT_extract rfl rfl | (apply g_load; first | exact WT_loadf rfl rfl) | (apply g_bin; first | exact WT_eql rfl rfl | exact WT_add rfl rfl) | (apply g_index; first | exact WT_index rfl rfl rfl) | (apply g_slice; first | exact WT_slch rfl rfl rfl)); exact rfl) | (refine WPL_off rfl rfl rfl rfl rfl ?_) | (apply WPL_gt; exact rfl; exact rfl; exact rfl; (first | exact WT_move rfl | (apply g_load; first | exact WT_loadf rfl rfl) | (apply g_bin; first | exact WT_lss rfl rfl) | (apply g_index; first | exact WT_index rfl rfl rfl) | (apply g_slice; first | exact WT_slch rfl rfl rfl)); exact rfl) | refine WP_skip ?_ | refine WP_ret ?_ | refine WP_cond_t rfl ?_ | (apply WPL_op0; exact rfl; first | (apply g_callf; first | (refine WO_call Try.func63 rfl (number_any _ (by simp only [List.length_take, List.length_drop]; omega)) rfl ?_; rintro _ _ ⟨rfl, rfl⟩)) | (apply g_append; (first | (refine WO_append (k := 1) (l0 := []) rfl rfl (by first | exact Src_rowW (k := 0) rfl rfl) rfl ?_)); intro _) | (apply g_bslice; (first | refine WO_bslice1 rfl rfl ?_); intro _)) | (apply WPL_on0; exact rfl; exact rfl; exact rfl; exact rfl; (apply g_callf; first | (refine WO_call Try.func63 rfl (number_any _ (by simp only [List.length_take, List.length_drop]; omega)) rfl ?_; rintro _ _ ⟨rfl, rfl⟩))) | (refine WPL_case rfl rfl (fun hb => ?_) (fun hb => ?_) <;> (repeat (first | replace hb := dec_t hb | replace hb := dec_f hb)) <;> (try (exfalso; first | fail))) | (refine WP_cond rfl (fun hb => ?_) (fun hb => ?_) <;> (repeat (first | replace hb := dec_t hb | replace hb := dec_f hb)) <;> (try (exfalso; first | fail)))))
    · apply retP_leads
      · apply Leads_vsl (E := eByte) (l1 := []) (l2 := []) (t := 2) <;> first | exact rfl | omega
      · refine ⟨.inr rfl, ret1 rfl (.tmp rfl) (List.nil_sublist _) ⟨congrArg _ ?_, rfl⟩⟩
        rw [hi4, hstep (f - 1) (by omega), if_pos (.inl (by omega))]
    · apply retP_leads
      · apply Leads_vsl (E := eByte) (l1 := []) (l2 := []) (t := 2) <;> first | exact rfl | omega
      · refine ⟨.inr rfl, ret1 rfl (.tmp rfl) (List.nil_sublist _) ⟨congrArg _ ?_, rfl⟩⟩
        rw [hi4, hstep (f - 1) (by omega), if_pos (.inr (by omega))]
    · rename_i v'
      have hl2 := numN_lt64 (o[i].take 4) (by rw [List.length_take]; omega)
      rw [show acc.map (isl eByte) ++ [isl eByte pay] = (acc ++ [pay]).map (isl eByte) by simp, show acc.length + 1 = (acc ++ [pay]).length by simp]
      refine ⟨(v', i + cnt, numN (o[i].take 4), acc ++ [pay]), ⟨by dsimp only; omega, by dsimp only; rw [List.length_append, List.length_singleton]; omega, hl2, f - 1, by dsimp only; rw [List.length_append, List.length_singleton]; omega, ?_⟩, by dsimp only; omega, Leads_env (by repeat (first | exact sub_nil | refine sub_cons rfl ?_)) (List.sublist_cons_self _ _)⟩
      rw [hi4, hstep (f - 1) (by omega), if_neg (by omega)]

end Go.Proofs.Ytmghnjahjeinnaa

/- How many sectors a record takes. -/
namespace Go.Proofs.Ytmghnjahjeinnaa
open Go Go.RowKit Go.Kx Go.Fr

/-- The sectors of a record of n bytes. -/
def secsN (n : Nat) : Nat := max 1 ((n + 111) / 112)

set_option maxRecDepth 100000 in
theorem sectorsR_any (n : Nat) (hn : n < 2 ^ 62) : FnC Try.prog 39 [exI .i64 n] [] (fun p loc => p = exI .i64 (secsN n) ∧ loc = []) := by
  refine FnC_enter Try.func39 rfl Try.ntmps39 rfl fun w0 F0 out => ?_
  (repeat' (first | refine WP_seq ?_ | refine WP_region ?_ | refine WPL_nil ?_ | (apply WPL_t; (first | exact WT_move rfl | exact WT_assign rfl | (apply g_bin; first | exact WT_add rfl rfl | exact WT_sub rfl rfl | exact WT_quoz rfl rfl) | (apply g_call; first | exact WT_max rfl rfl)); exact rfl) | refine WP_ret ?_))
  refine ⟨.inr rfl, ret1 rfl (.tmp rfl) (List.nil_sublist _) ⟨congrArg (exI .i64) ?_, rfl⟩⟩
  unfold secsN
  split <;> omega

set_option maxRecDepth 100000 in
theorem sectors_any (b : List UInt8) (hb : b.length < 2 ^ 62) : FnC Try.prog 35 [isl eByte b] [] (fun p loc => p = exI .i64 (secsN b.length) ∧ loc = []) := by
  refine FnC_enter Try.func35 rfl Try.ntmps35 rfl fun w0 F0 out => ?_
  (repeat' (first | refine WP_seq ?_ | refine WP_region ?_ | refine WPL_nil ?_ | (apply WPL_t; (first | exact WT_move rfl | exact WT_assign rfl | (apply g_bin; first | exact WT_add rfl rfl | exact WT_sub rfl rfl | exact WT_quoz rfl rfl) | (apply g_call; first | exact WT_max rfl rfl | exact WT_len rfl rfl)); exact rfl) | refine WP_ret ?_))
  refine ⟨.inr rfl, ret1 rfl (.tmp rfl) (List.nil_sublist _) ⟨congrArg (exI .i64) ?_, rfl⟩⟩
  unfold secsN
  split <;> omega

def usedN (o : List (List UInt8)) : Nat := (o.map fun b => secsN b.length).sum
theorem usedN_take (o : List (List UInt8)) (k : Nat) (h : k < o.length) : usedN (o.take (k + 1)) = usedN (o.take k) + secsN o[k].length := by
  unfold usedN
  rw [List.take_succ_eq_append_getElem h, List.map_append, List.sum_append, List.map_singleton, List.sum_singleton]
theorem secsN_le (n : Nat) (h : n < 2 ^ 40) : secsN n ≤ 2 ^ 40 := by unfold secsN; omega
theorem usedN_le (o : List (List UInt8)) (h : ∀ b ∈ o, b.length < 2 ^ 40) : usedN o ≤ 2 ^ 40 * o.length := by
  induction o with
  | nil => simp [usedN]
  | cons b o ih =>
    have h1 := ih fun c hc => h c (List.mem_cons_of_mem _ hc)
    have h2 := secsN_le b.length (h b List.mem_cons_self)
    simp only [usedN, List.map_cons, List.sum_cons, List.length_cons] at h1 ⊢
    omega

set_option maxRecDepth 100000 in
theorem usedR_any (o : List (List UInt8)) (ho : o.length < 2 ^ 20) (hall : ∀ b ∈ o, b.length < 2 ^ 40) : FnC Try.prog 40 [isl (eSl eByte) o] [] (fun p loc => p = exI .i64 (usedN o) ∧ loc = []) := by
  refine FnC_enter Try.func40 rfl Try.ntmps40 rfl fun w0 F0 out => ?_
  (repeat' (first | refine WP_seq ?_ | refine WP_region ?_ | refine WPL_nil ?_ | (apply WPL_t; (first | exact WT_assign rfl); exact rfl) | refine WP_block ?_))
  refine WP_loop (fun k : Nat => ([(0, isl (eSl eByte) o), (4, exI .i64 k), (3, exI .i64 (usedN (o.take k)))], [])) (fun k => k ≤ o.length) (fun k => o.length - k) 0 ?_ (by omega) fun k hk => ?_
  · exact Leads_env (by repeat (first | exact sub_nil | refine sub_cons rfl ?_)) (List.Sublist.refl _)
  have hk2 := usedN_le (o.take k) (fun b hb => hall b (List.mem_of_mem_take hb))
  rw [List.length_take, Nat.min_eq_left hk] at hk2
  have hall2 : ∀ (h : k < o.length), secsN o[k].length ≤ 2 ^ 40 ∧ o[k].length < 2 ^ 62 := fun h => ⟨secsN_le _ (hall _ (List.getElem_mem _)), by have := hall o[k] (List.getElem_mem _); omega⟩
  (repeat' (first | refine WP_seq ?_ | refine WP_region ?_ | refine WPL_nil ?_ | (apply WPL_t; (first | exact WT_move rfl | exact WT_assign rfl | (apply g_load; first | exact WT_loadf rfl rfl) | (apply g_bin; first | exact WT_lss rfl rfl | exact WT_add rfl rfl) | (apply g_index; first | exact WT_index rfl rfl rfl) | (apply g_call; first | exact WT_len rfl rfl)); exact rfl) | refine WP_block ?_ | refine WP_skip ?_ | refine WP_ret ?_ | refine WP_exit ?_ | (apply WPL_op0; exact rfl; first | (apply g_callf; first | (refine WO_call Try.func39 rfl (sectorsR_any _ (hall2 (by omega)).2) rfl ?_; rintro _ _ ⟨rfl, rfl⟩; have hs2 := (hall2 (by omega)).1))) | (refine WP_cond rfl (fun hb => ?_) (fun hb => ?_) <;> (repeat (first | replace hb := dec_t hb | replace hb := dec_f hb)) <;> (try (exfalso; first | fail)))))
  · refine ⟨k + 1, by omega, by omega, Leads_env (sub_cons rfl (sub_cons rfl (sub_cons ?_ sub_nil))) (List.Sublist.refl _)⟩
    rw [usedN_take o k (by omega)]; rfl
  · refine ⟨.inr rfl, ret1 rfl (.tmp rfl) (List.nil_sublist _) ⟨?_, rfl⟩⟩
    rw [List.take_of_length_le (by omega)]

end Go.Proofs.Ytmghnjahjeinnaa
