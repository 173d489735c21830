/- Used, Check and Room. -/
import Derived.Test.YtmghnjahjeinnaaJour2
import Derived.Test.YtmghnjahjeinnaaFrame3
import Derived.Test.YtmghnjahjeinnaaDisk4
import Derived.Test.YtmghnjahjeinnaaDisk1
import Derived.Test.YtmghnjahjeinnaaDisk2
namespace Go.Proofs.Ytmghnjahjeinnaa
open Go Go.RowKit Go.Kx Go.Fr

set_option maxRecDepth 100000 in
theorem used_any (o : List (List UInt8)) (ho : o.length < 2 ^ 20) (hall : ∀ b ∈ o, b.length < 2 ^ 40) : FnC Try.prog 36 [isl (eSl eByte) o] [] (fun p loc => p = exI .i64 (usedN o) ∧ loc = []) := by
  refine FnC_enter Try.func36 rfl Try.ntmps36 rfl fun w0 F0 out => ?_
  (repeat' (first | refine WP_seq ?_ | refine WP_region ?_ | refine WPL_nil ?_ | (apply WPL_t; (first | exact WT_move rfl | exact WT_assign rfl | (apply g_call; first | exact WT_len rfl rfl)); exact rfl) | refine WP_block ?_))
  refine WP_loop (fun k : Nat => ([(5, isl (eSl eByte) o), (6, exI .i64 o.length), (7, exI .i64 k), (2, exI .i64 (usedN (o.take k)))], [])) (fun k => k ≤ o.length) (fun k => o.length - k) 0 ?_ (by omega) fun k hk => ?_
  · exact Leads_env (by repeat (first | exact sub_nil | refine sub_cons rfl ?_)) (List.Sublist.refl _)
  have hk2 := usedN_le (o.take k) (fun b hb => hall b (List.mem_of_mem_take hb))
  rw [List.length_take, Nat.min_eq_left hk] at hk2
  have hall2 : ∀ (h : k < o.length), secsN o[k].length ≤ 2 ^ 40 ∧ o[k].length < 2 ^ 62 := fun h => ⟨secsN_le _ (hall _ (List.getElem_mem _)), by have := hall o[k] (List.getElem_mem _); omega⟩
  (repeat' (first | refine WP_seq ?_ | refine WP_region ?_ | refine WPL_nil ?_ | (apply WPL_t; (first | exact WT_move rfl | exact WT_assign rfl | (apply g_load; first | exact WT_loadf rfl rfl) | (apply g_bin; first | exact WT_lss rfl rfl | exact WT_add rfl rfl) | (apply g_index; first | exact WT_index rfl rfl rfl)); exact rfl) | refine WP_block ?_ | refine WP_skip ?_ | refine WP_ret ?_ | refine WP_exit ?_ | (apply WPL_op0; exact rfl; first | (apply g_callf; first | (refine WO_call Try.func35 rfl (sectors_any _ (hall2 (by omega)).2) rfl ?_; rintro _ _ ⟨rfl, rfl⟩; have hs2 := (hall2 (by omega)).1))) | (refine WP_cond rfl (fun hb => ?_) (fun hb => ?_) <;> (repeat (first | replace hb := dec_t hb | replace hb := dec_f hb)) <;> (try (exfalso; first | fail)))))
  · refine ⟨k + 1, by omega, by omega, Leads_env (sub_cons rfl (sub_cons rfl (sub_cons rfl (sub_cons ?_ sub_nil)))) (List.Sublist.refl _)⟩
    rw [usedN_take o k (by omega)]; rfl
  · refine ⟨.inr rfl, ret1 rfl (.tmp rfl) (List.nil_sublist _) ⟨?_, rfl⟩⟩
    rw [List.take_of_length_le (by omega)]

/-- A journal by value: its records, how many sectors, how many are synced. -/
abbrev jr (o : List (List UInt8)) (m s : Int) : SP := agg [isl (eSl eByte) o, exI .i64 m, exI .i64 s]
def jOK (o : List (List UInt8)) (m s : Int) : Prop := 1 ≤ m ∧ m ≤ 4096 ∧ 0 ≤ s ∧ s ≤ o.length ∧ (usedN o : Int) ≤ m
instance (o : List (List UInt8)) (m s : Int) : Decidable (jOK o m s) := by unfold jOK; exact inferInstance
def jchk (o : List (List UInt8)) (m s : Int) : Int := if jOK o m s then 0 else 1

set_option maxRecDepth 100000 in
theorem jcheck_any (o : List (List UInt8)) (m s : Int) (ho : o.length < 2 ^ 20) (hall : ∀ b ∈ o, b.length < 2 ^ 40) : FnC Try.prog 17 [jr o m s] [] (fun p loc => p = exI .i64 (jchk o m s) ∧ loc = []) := by
  refine FnC_enter Try.func17 rfl Try.ntmps17 rfl fun w0 F0 out => ?_
  have hub := usedN_le o hall
  (repeat' (first | refine WP_seq ?_ | refine WP_region ?_ | refine WPL_nil ?_ | (apply WPL_t; (first | exact WT_assign rfl); exact rfl) | (apply WPL_op0; exact rfl; first | (apply g_box; refine WO_box rfl ?_; intro _))))
  (refine WP_drawl 29 rfl ?_)
  all_goals ((apply WPY_pure 0 rfl (by decide +kernel) rfl (by repeat (first | exact np_ret)) guard_none; (first | (apply g_fld; first | exact WT_field rfl rfl rfl)); exact rfl))
  all_goals ((apply WPY_take 1 rfl (by decide +kernel) rfl (by decide +kernel) (by repeat (first | exact np_ret)) guard_none; (first | (apply g_load; first | exact WT_load (k := 0) rfl rfl rfl rfl)); exact rfl))
  all_goals ((apply WPY_pure 2 rfl (by decide +kernel) rfl (by repeat (first | exact np_ret)) guard_none; (first | (apply g_bin; first | exact WT_lss rfl rfl)); exact rfl))
  all_goals ((apply WPY_pure 3 rfl (by decide +kernel) rfl (by repeat (first | exact np_ret)) guard_none; (first | exact WT_move rfl); exact rfl))
  all_goals (first | (refine WPY_case 6 rfl (fun hb => ?_) (fun hb => ?_) <;> (repeat (first | replace hb := dec_t hb | replace hb := dec_f hb | replace hb := not_t hb | replace hb := not_f hb)) <;> (try (exfalso; first | (cases hb; done) | omega))) | skip)
  all_goals (first | (refine WPY_off 4 rfl (by decide +kernel) rfl (by repeat (first | exact np_ret)) rfl rfl rfl rfl rfl ?_) | (apply WPY_pure 4 rfl (by decide +kernel) rfl (by repeat (first | exact np_ret)) (guard_some rfl rfl rfl); (first | (apply g_fld; first | exact WT_field rfl rfl rfl)); exact rfl))
  all_goals (first | (refine WPY_off 5 rfl (by decide +kernel) rfl (by repeat (first | exact np_ret)) rfl rfl rfl rfl rfl ?_) | (apply WPY_take 5 rfl (by decide +kernel) rfl (by decide +kernel) (by repeat (first | exact np_ret)) (guard_some rfl rfl rfl); (first | (apply g_load; first | exact WT_load (k := 0) rfl rfl rfl rfl)); exact rfl))
  all_goals (first | (refine WPY_off 6 rfl (by decide +kernel) rfl (by repeat (first | exact np_ret)) rfl rfl rfl rfl rfl ?_) | (apply WPY_pure 6 rfl (by decide +kernel) rfl (by repeat (first | exact np_ret)) (guard_some rfl rfl rfl); (first | (apply g_bin; first | exact WT_gtr rfl rfl)); exact rfl))
  all_goals ((apply WPY_pure 7 rfl (by decide +kernel) rfl (by repeat (first | exact np_ret)) guard_none; (first | exact WT_pick (b := true) rfl (fun _ => rfl) (fun e => by cases e) | exact WT_pick (b := false) rfl (fun e => by cases e) (fun _ => rfl)); exact rfl))
  all_goals ((apply WPY_pure 8 rfl (by decide +kernel) rfl (by repeat (first | exact np_ret)) guard_none; (first | exact WT_move rfl); exact rfl))
  all_goals (first | (refine WPY_case 11 rfl (fun hb => ?_) (fun hb => ?_) <;> (repeat (first | replace hb := dec_t hb | replace hb := dec_f hb | replace hb := not_t hb | replace hb := not_f hb)) <;> (try (exfalso; first | (cases hb; done) | omega))) | skip)
  all_goals (first | (refine WPY_off 9 rfl (by decide +kernel) rfl (by repeat (first | exact np_ret)) rfl rfl rfl rfl rfl ?_) | (apply WPY_pure 9 rfl (by decide +kernel) rfl (by repeat (first | exact np_ret)) (guard_some rfl rfl rfl); (first | (apply g_fld; first | exact WT_field rfl rfl rfl)); exact rfl))
  all_goals (first | (refine WPY_off 10 rfl (by decide +kernel) rfl (by repeat (first | exact np_ret)) rfl rfl rfl rfl rfl ?_) | (apply WPY_take 10 rfl (by decide +kernel) rfl (by decide +kernel) (by repeat (first | exact np_ret)) (guard_some rfl rfl rfl); (first | (apply g_load; first | exact WT_load (k := 0) rfl rfl rfl rfl)); exact rfl))
  all_goals (first | (refine WPY_off 11 rfl (by decide +kernel) rfl (by repeat (first | exact np_ret)) rfl rfl rfl rfl rfl ?_) | (apply WPY_pure 11 rfl (by decide +kernel) rfl (by repeat (first | exact np_ret)) (guard_some rfl rfl rfl); (first | (apply g_bin; first | exact WT_lss rfl rfl)); exact rfl))
  all_goals ((apply WPY_pure 12 rfl (by decide +kernel) rfl (by repeat (first | exact np_ret)) guard_none; (first | exact WT_pick (b := true) rfl (fun _ => rfl) (fun e => by cases e) | exact WT_pick (b := false) rfl (fun e => by cases e) (fun _ => rfl)); exact rfl))
  all_goals ((apply WPY_pure 13 rfl (by decide +kernel) rfl (by repeat (first | exact np_ret)) guard_none; (first | exact WT_move rfl); exact rfl))
  all_goals (first | (refine WPY_case 16 rfl (fun hb => ?_) (fun hb => ?_) <;> (repeat (first | replace hb := dec_t hb | replace hb := dec_f hb | replace hb := not_t hb | replace hb := not_f hb)) <;> (try (exfalso; first | (cases hb; done) | omega))) | skip)
  all_goals (first | (refine WPY_off 14 rfl (by decide +kernel) rfl (by repeat (first | exact np_ret)) rfl rfl rfl rfl rfl ?_) | (apply WPY_pure 14 rfl (by decide +kernel) rfl (by repeat (first | exact np_ret)) (guard_some rfl rfl rfl); (first | (apply g_fld; first | exact WT_field rfl rfl rfl)); exact rfl))
  all_goals (first | (refine WPY_off 15 rfl (by decide +kernel) rfl (by repeat (first | exact np_ret)) rfl rfl rfl rfl rfl ?_) | (apply WPY_take 15 rfl (by decide +kernel) rfl (by decide +kernel) (by repeat (first | exact np_ret)) (guard_some rfl rfl rfl); (first | (apply g_load; first | exact WT_load (k := 0) rfl rfl rfl rfl)); exact rfl))
  all_goals (first | (refine WPY_off 16 rfl (by decide +kernel) rfl (by repeat (first | exact np_ret)) rfl rfl rfl rfl rfl ?_) | (apply WPY_pure 16 rfl (by decide +kernel) rfl (by repeat (first | exact np_ret)) (guard_some rfl rfl rfl); (first | (apply g_fld; first | exact WT_field rfl rfl rfl)); exact rfl))
  all_goals (first | (refine WPY_off 17 rfl (by decide +kernel) rfl (by repeat (first | exact np_ret)) rfl rfl rfl rfl rfl ?_) | (apply WPY_take 17 rfl (by decide +kernel) rfl (by decide +kernel) (by repeat (first | exact np_ret)) (guard_some rfl rfl rfl); (first | (apply g_load; first | exact WT_load (k := 0) rfl rfl rfl rfl)); exact rfl))
  all_goals (first | (refine WPY_off 18 rfl (by decide +kernel) rfl (by repeat (first | exact np_ret)) rfl rfl rfl rfl rfl ?_) | (apply WPY_pure 18 rfl (by decide +kernel) rfl (by repeat (first | exact np_ret)) (guard_some rfl rfl rfl); (first | (apply g_call; first | exact WT_len rfl rfl)); exact rfl))
  all_goals (first | (refine WPY_off 19 rfl (by decide +kernel) rfl (by repeat (first | exact np_ret)) rfl rfl rfl rfl rfl ?_) | (apply WPY_pure 19 rfl (by decide +kernel) rfl (by repeat (first | exact np_ret)) (guard_some rfl rfl rfl); (first | (apply g_bin; first | exact WT_gtr rfl rfl)); exact rfl))
  all_goals ((apply WPY_pure 20 rfl (by decide +kernel) rfl (by repeat (first | exact np_ret)) guard_none; (first | exact WT_pick (b := true) rfl (fun _ => rfl) (fun e => by cases e) | exact WT_pick (b := false) rfl (fun e => by cases e) (fun _ => rfl)); exact rfl))
  all_goals ((apply WPY_pure 21 rfl (by decide +kernel) rfl (by repeat (first | exact np_ret)) guard_none; (first | exact WT_move rfl); exact rfl))
  all_goals (first | (refine WPY_case 24 rfl (fun hb => ?_) (fun hb => ?_) <;> (repeat (first | replace hb := dec_t hb | replace hb := dec_f hb | replace hb := not_t hb | replace hb := not_f hb)) <;> (try (exfalso; first | (cases hb; done) | omega))) | skip)
  all_goals (first | (refine WPY_off 22 rfl (by decide +kernel) rfl (by repeat (first | exact np_ret)) rfl rfl rfl rfl rfl ?_) | (apply WPY_pure 22 rfl (by decide +kernel) rfl (by repeat (first | exact np_ret)) (guard_some rfl rfl rfl); (first | (apply g_fld; first | exact WT_field rfl rfl rfl)); exact rfl))
  all_goals (first | (refine WPY_off 23 rfl (by decide +kernel) rfl (by repeat (first | exact np_ret)) rfl rfl rfl rfl rfl ?_) | (apply WPY_take 23 rfl (by decide +kernel) rfl (by decide +kernel) (by repeat (first | exact np_ret)) (guard_some rfl rfl rfl); (first | (apply g_load; first | exact WT_load (k := 0) rfl rfl rfl rfl)); exact rfl))
  all_goals (first | (refine WPY_off 25 rfl (by decide +kernel) rfl (by repeat (first | exact np_ret)) rfl rfl rfl rfl rfl ?_) | (apply WPY_pure 25 rfl (by decide +kernel) rfl (by repeat (first | exact np_ret)) (guard_some rfl rfl rfl); (first | (apply g_fld; first | exact WT_field rfl rfl rfl)); exact rfl))
  all_goals (first | (refine WPY_off 26 rfl (by decide +kernel) rfl (by repeat (first | exact np_ret)) rfl rfl rfl rfl rfl ?_) | (apply WPY_take 26 rfl (by decide +kernel) rfl (by decide +kernel) (by repeat (first | exact np_ret)) (guard_some rfl rfl rfl); (first | (apply g_load; first | exact WT_load (k := 0) rfl rfl rfl rfl)); exact rfl))
  all_goals (first | (refine WPY_off 24 rfl (by decide +kernel) rfl (by repeat (first | exact np_ret)) rfl rfl rfl rfl rfl ?_) | (apply WPY_one 24; exact (by decide +kernel); exact rfl; exact (guard_some rfl rfl rfl); exact (fun _ _ h => h); first | (apply g_callf; first | (refine WO_call Try.func36 rfl (used_any _ (by assumption) (by assumption)) rfl ?_; rintro _ _ ⟨rfl, rfl⟩))))
  all_goals (first | (refine WPY_off 27 rfl (by decide +kernel) rfl (by repeat (first | exact np_ret)) rfl rfl rfl rfl rfl ?_) | (apply WPY_pure 27 rfl (by decide +kernel) rfl (by repeat (first | exact np_ret)) (guard_some rfl rfl rfl); (first | (apply g_bin; first | exact WT_gtr rfl rfl)); exact rfl))
  all_goals ((apply WPY_pure 28 rfl (by decide +kernel) rfl (by repeat (first | exact np_ret)) guard_none; (first | exact WT_pick (b := true) rfl (fun _ => rfl) (fun e => by cases e) | exact WT_pick (b := false) rfl (fun e => by cases e) (fun _ => rfl)); exact rfl))
  all_goals (refine WPY_done (by decide +kernel) ?_)
  all_goals ((repeat' (first | refine WP_seq ?_ | refine WP_region ?_ | refine WPL_nil ?_ | (apply WPL_t; (first | exact WT_assign rfl); exact rfl) | refine WP_skip ?_ | refine WP_ret ?_ | refine WP_cond_t rfl ?_ | (refine WP_cond rfl (fun hb => ?_) (fun hb => ?_) <;> (repeat (first | replace hb := dec_t hb | replace hb := dec_f hb)) <;> (try (exfalso; first | fail))))))
  all_goals (refine ⟨.inr rfl, ret1 rfl (.tmp rfl) (List.nil_sublist _) ⟨congrArg (exI .i64) ?_, rfl⟩⟩)
  all_goals (unfold jchk; first | exact (if_neg (by unfold jOK; omega)).symm | exact (if_pos (by unfold jOK; omega)).symm)

set_option maxRecDepth 100000 in
theorem jcheckR_any (o : List (List UInt8)) (m s : Int) (ho : o.length < 2 ^ 20) (hall : ∀ b ∈ o, b.length < 2 ^ 40) : FnC Try.prog 18 [jr o m s] [] (fun p loc => p = exI .i64 (jchk o m s) ∧ loc = []) := by
  refine FnC_enter Try.func18 rfl Try.ntmps18 rfl fun w0 F0 out => ?_
  have hub := usedN_le o hall
  (repeat' (first | refine WP_seq ?_ | refine WP_region ?_ | refine WPL_nil ?_ | (apply WPL_t; (first | exact WT_assign rfl); exact rfl) | (apply WPL_op0; exact rfl; first | (apply g_box; refine WO_box rfl ?_; intro _))))
  (refine WP_drawl 29 rfl ?_)
  all_goals ((apply WPY_pure 0 rfl (by decide +kernel) rfl (by repeat (first | exact np_ret)) guard_none; (first | (apply g_fld; first | exact WT_field rfl rfl rfl)); exact rfl))
  all_goals ((apply WPY_take 1 rfl (by decide +kernel) rfl (by decide +kernel) (by repeat (first | exact np_ret)) guard_none; (first | (apply g_load; first | exact WT_load (k := 0) rfl rfl rfl rfl)); exact rfl))
  all_goals ((apply WPY_pure 2 rfl (by decide +kernel) rfl (by repeat (first | exact np_ret)) guard_none; (first | (apply g_bin; first | exact WT_lss rfl rfl)); exact rfl))
  all_goals ((apply WPY_pure 3 rfl (by decide +kernel) rfl (by repeat (first | exact np_ret)) guard_none; (first | exact WT_move rfl); exact rfl))
  all_goals (first | (refine WPY_case 6 rfl (fun hb => ?_) (fun hb => ?_) <;> (repeat (first | replace hb := dec_t hb | replace hb := dec_f hb | replace hb := not_t hb | replace hb := not_f hb)) <;> (try (exfalso; first | (cases hb; done) | omega))) | skip)
  all_goals (first | (refine WPY_off 4 rfl (by decide +kernel) rfl (by repeat (first | exact np_ret)) rfl rfl rfl rfl rfl ?_) | (apply WPY_pure 4 rfl (by decide +kernel) rfl (by repeat (first | exact np_ret)) (guard_some rfl rfl rfl); (first | (apply g_fld; first | exact WT_field rfl rfl rfl)); exact rfl))
  all_goals (first | (refine WPY_off 5 rfl (by decide +kernel) rfl (by repeat (first | exact np_ret)) rfl rfl rfl rfl rfl ?_) | (apply WPY_take 5 rfl (by decide +kernel) rfl (by decide +kernel) (by repeat (first | exact np_ret)) (guard_some rfl rfl rfl); (first | (apply g_load; first | exact WT_load (k := 0) rfl rfl rfl rfl)); exact rfl))
  all_goals (first | (refine WPY_off 6 rfl (by decide +kernel) rfl (by repeat (first | exact np_ret)) rfl rfl rfl rfl rfl ?_) | (apply WPY_pure 6 rfl (by decide +kernel) rfl (by repeat (first | exact np_ret)) (guard_some rfl rfl rfl); (first | (apply g_bin; first | exact WT_gtr rfl rfl)); exact rfl))
  all_goals ((apply WPY_pure 7 rfl (by decide +kernel) rfl (by repeat (first | exact np_ret)) guard_none; (first | exact WT_pick (b := true) rfl (fun _ => rfl) (fun e => by cases e) | exact WT_pick (b := false) rfl (fun e => by cases e) (fun _ => rfl)); exact rfl))
  all_goals ((apply WPY_pure 8 rfl (by decide +kernel) rfl (by repeat (first | exact np_ret)) guard_none; (first | exact WT_move rfl); exact rfl))
  all_goals (first | (refine WPY_case 11 rfl (fun hb => ?_) (fun hb => ?_) <;> (repeat (first | replace hb := dec_t hb | replace hb := dec_f hb | replace hb := not_t hb | replace hb := not_f hb)) <;> (try (exfalso; first | (cases hb; done) | omega))) | skip)
  all_goals (first | (refine WPY_off 9 rfl (by decide +kernel) rfl (by repeat (first | exact np_ret)) rfl rfl rfl rfl rfl ?_) | (apply WPY_pure 9 rfl (by decide +kernel) rfl (by repeat (first | exact np_ret)) (guard_some rfl rfl rfl); (first | (apply g_fld; first | exact WT_field rfl rfl rfl)); exact rfl))
  all_goals (first | (refine WPY_off 10 rfl (by decide +kernel) rfl (by repeat (first | exact np_ret)) rfl rfl rfl rfl rfl ?_) | (apply WPY_take 10 rfl (by decide +kernel) rfl (by decide +kernel) (by repeat (first | exact np_ret)) (guard_some rfl rfl rfl); (first | (apply g_load; first | exact WT_load (k := 0) rfl rfl rfl rfl)); exact rfl))
  all_goals (first | (refine WPY_off 11 rfl (by decide +kernel) rfl (by repeat (first | exact np_ret)) rfl rfl rfl rfl rfl ?_) | (apply WPY_pure 11 rfl (by decide +kernel) rfl (by repeat (first | exact np_ret)) (guard_some rfl rfl rfl); (first | (apply g_bin; first | exact WT_lss rfl rfl)); exact rfl))
  all_goals ((apply WPY_pure 12 rfl (by decide +kernel) rfl (by repeat (first | exact np_ret)) guard_none; (first | exact WT_pick (b := true) rfl (fun _ => rfl) (fun e => by cases e) | exact WT_pick (b := false) rfl (fun e => by cases e) (fun _ => rfl)); exact rfl))
  all_goals ((apply WPY_pure 13 rfl (by decide +kernel) rfl (by repeat (first | exact np_ret)) guard_none; (first | exact WT_move rfl); exact rfl))
  all_goals (first | (refine WPY_case 16 rfl (fun hb => ?_) (fun hb => ?_) <;> (repeat (first | replace hb := dec_t hb | replace hb := dec_f hb | replace hb := not_t hb | replace hb := not_f hb)) <;> (try (exfalso; first | (cases hb; done) | omega))) | skip)
  all_goals (first | (refine WPY_off 14 rfl (by decide +kernel) rfl (by repeat (first | exact np_ret)) rfl rfl rfl rfl rfl ?_) | (apply WPY_pure 14 rfl (by decide +kernel) rfl (by repeat (first | exact np_ret)) (guard_some rfl rfl rfl); (first | (apply g_fld; first | exact WT_field rfl rfl rfl)); exact rfl))
  all_goals (first | (refine WPY_off 15 rfl (by decide +kernel) rfl (by repeat (first | exact np_ret)) rfl rfl rfl rfl rfl ?_) | (apply WPY_take 15 rfl (by decide +kernel) rfl (by decide +kernel) (by repeat (first | exact np_ret)) (guard_some rfl rfl rfl); (first | (apply g_load; first | exact WT_load (k := 0) rfl rfl rfl rfl)); exact rfl))
  all_goals (first | (refine WPY_off 16 rfl (by decide +kernel) rfl (by repeat (first | exact np_ret)) rfl rfl rfl rfl rfl ?_) | (apply WPY_pure 16 rfl (by decide +kernel) rfl (by repeat (first | exact np_ret)) (guard_some rfl rfl rfl); (first | (apply g_fld; first | exact WT_field rfl rfl rfl)); exact rfl))
  all_goals (first | (refine WPY_off 17 rfl (by decide +kernel) rfl (by repeat (first | exact np_ret)) rfl rfl rfl rfl rfl ?_) | (apply WPY_take 17 rfl (by decide +kernel) rfl (by decide +kernel) (by repeat (first | exact np_ret)) (guard_some rfl rfl rfl); (first | (apply g_load; first | exact WT_load (k := 0) rfl rfl rfl rfl)); exact rfl))
  all_goals (first | (refine WPY_off 18 rfl (by decide +kernel) rfl (by repeat (first | exact np_ret)) rfl rfl rfl rfl rfl ?_) | (apply WPY_pure 18 rfl (by decide +kernel) rfl (by repeat (first | exact np_ret)) (guard_some rfl rfl rfl); (first | (apply g_call; first | exact WT_len rfl rfl)); exact rfl))
  all_goals (first | (refine WPY_off 19 rfl (by decide +kernel) rfl (by repeat (first | exact np_ret)) rfl rfl rfl rfl rfl ?_) | (apply WPY_pure 19 rfl (by decide +kernel) rfl (by repeat (first | exact np_ret)) (guard_some rfl rfl rfl); (first | (apply g_bin; first | exact WT_gtr rfl rfl)); exact rfl))
  all_goals ((apply WPY_pure 20 rfl (by decide +kernel) rfl (by repeat (first | exact np_ret)) guard_none; (first | exact WT_pick (b := true) rfl (fun _ => rfl) (fun e => by cases e) | exact WT_pick (b := false) rfl (fun e => by cases e) (fun _ => rfl)); exact rfl))
  all_goals ((apply WPY_pure 21 rfl (by decide +kernel) rfl (by repeat (first | exact np_ret)) guard_none; (first | exact WT_move rfl); exact rfl))
  all_goals (first | (refine WPY_case 24 rfl (fun hb => ?_) (fun hb => ?_) <;> (repeat (first | replace hb := dec_t hb | replace hb := dec_f hb | replace hb := not_t hb | replace hb := not_f hb)) <;> (try (exfalso; first | (cases hb; done) | omega))) | skip)
  all_goals (first | (refine WPY_off 22 rfl (by decide +kernel) rfl (by repeat (first | exact np_ret)) rfl rfl rfl rfl rfl ?_) | (apply WPY_pure 22 rfl (by decide +kernel) rfl (by repeat (first | exact np_ret)) (guard_some rfl rfl rfl); (first | (apply g_fld; first | exact WT_field rfl rfl rfl)); exact rfl))
  all_goals (first | (refine WPY_off 23 rfl (by decide +kernel) rfl (by repeat (first | exact np_ret)) rfl rfl rfl rfl rfl ?_) | (apply WPY_take 23 rfl (by decide +kernel) rfl (by decide +kernel) (by repeat (first | exact np_ret)) (guard_some rfl rfl rfl); (first | (apply g_load; first | exact WT_load (k := 0) rfl rfl rfl rfl)); exact rfl))
  all_goals (first | (refine WPY_off 25 rfl (by decide +kernel) rfl (by repeat (first | exact np_ret)) rfl rfl rfl rfl rfl ?_) | (apply WPY_pure 25 rfl (by decide +kernel) rfl (by repeat (first | exact np_ret)) (guard_some rfl rfl rfl); (first | (apply g_fld; first | exact WT_field rfl rfl rfl)); exact rfl))
  all_goals (first | (refine WPY_off 26 rfl (by decide +kernel) rfl (by repeat (first | exact np_ret)) rfl rfl rfl rfl rfl ?_) | (apply WPY_take 26 rfl (by decide +kernel) rfl (by decide +kernel) (by repeat (first | exact np_ret)) (guard_some rfl rfl rfl); (first | (apply g_load; first | exact WT_load (k := 0) rfl rfl rfl rfl)); exact rfl))
  all_goals (first | (refine WPY_off 24 rfl (by decide +kernel) rfl (by repeat (first | exact np_ret)) rfl rfl rfl rfl rfl ?_) | (apply WPY_one 24; exact (by decide +kernel); exact rfl; exact (guard_some rfl rfl rfl); exact (fun _ _ h => h); first | (apply g_callf; first | (refine WO_call Try.func40 rfl (usedR_any _ (by assumption) (by assumption)) rfl ?_; rintro _ _ ⟨rfl, rfl⟩))))
  all_goals (first | (refine WPY_off 27 rfl (by decide +kernel) rfl (by repeat (first | exact np_ret)) rfl rfl rfl rfl rfl ?_) | (apply WPY_pure 27 rfl (by decide +kernel) rfl (by repeat (first | exact np_ret)) (guard_some rfl rfl rfl); (first | (apply g_bin; first | exact WT_gtr rfl rfl)); exact rfl))
  all_goals ((apply WPY_pure 28 rfl (by decide +kernel) rfl (by repeat (first | exact np_ret)) guard_none; (first | exact WT_pick (b := true) rfl (fun _ => rfl) (fun e => by cases e) | exact WT_pick (b := false) rfl (fun e => by cases e) (fun _ => rfl)); exact rfl))
  all_goals (refine WPY_done (by decide +kernel) ?_)
  all_goals ((repeat' (first | refine WP_seq ?_ | refine WP_region ?_ | refine WPL_nil ?_ | (apply WPL_t; (first | exact WT_assign rfl); exact rfl) | refine WP_skip ?_ | refine WP_ret ?_ | refine WP_cond_t rfl ?_ | (refine WP_cond rfl (fun hb => ?_) (fun hb => ?_) <;> (repeat (first | replace hb := dec_t hb | replace hb := dec_f hb)) <;> (try (exfalso; first | fail))))))
  all_goals (refine ⟨.inr rfl, ret1 rfl (.tmp rfl) (List.nil_sublist _) ⟨congrArg (exI .i64) ?_, rfl⟩⟩)
  all_goals (unfold jchk; first | exact (if_neg (by unfold jOK; omega)).symm | exact (if_pos (by unfold jOK; omega)).symm)

def jroom (o : List (List UInt8)) (m s : Int) : Int := if jOK o m s then 112 * (m - usedN o) else 0
theorem jchk_cases (o : List (List UInt8)) (m s : Int) : (jOK o m s ∧ jchk o m s = 0) ∨ (¬ jOK o m s ∧ jchk o m s = 1) := by
  by_cases h : jOK o m s
  · exact .inl ⟨h, if_pos h⟩
  · exact .inr ⟨h, if_neg h⟩

set_option maxRecDepth 100000 in
theorem room_any (o : List (List UInt8)) (m s : Int) (ho : o.length < 2 ^ 20) (hall : ∀ b ∈ o, b.length < 2 ^ 40) : FnC Try.prog 19 [jr o m s] [] (fun p loc => p = exI .i64 (jroom o m s) ∧ loc = []) := by
  refine FnC_enter Try.func19 rfl Try.ntmps19 rfl fun w0 F0 out => ?_
  rcases jchk_cases o m s with ⟨hok, hc⟩ | ⟨hok, hc⟩
  · have hok2 := hok
    obtain ⟨h1, h2, h3, h4, h5⟩ := hok2
    (repeat' (first | refine WP_seq ?_ | refine WP_region ?_ | refine WPL_nil ?_ | (apply WPL_t; (first | exact WT_assign rfl | (apply g_load; first | exact WT_loada2 (k := 0) rfl rfl rfl) | (apply g_bin; first | exact WT_neq rfl rfl)); exact rfl) | refine WP_skip ?_ | (apply WPL_op0; exact rfl; first | (apply g_callf; first | (refine WO_call Try.func17 rfl (jcheck_any _ _ _ (by assumption) (by assumption)) rfl ?_; rintro _ _ ⟨rfl, rfl⟩)) | (apply g_box; refine WO_box rfl ?_; intro _)) | (refine WP_cond rfl (fun hb => ?_) (fun hb => ?_) <;> (repeat (first | replace hb := dec_t hb | replace hb := dec_f hb | replace hb := not_t hb | replace hb := not_f hb)) <;> (try (exfalso; first | omega)))))
    (refine WP_drawl 8 rfl ?_)
    all_goals ((apply WPY_pure 0 rfl (by decide +kernel) rfl (by repeat (first | exact np_ret)) guard_none; (first | (apply g_fld; first | exact WT_field rfl rfl rfl)); exact rfl))
    all_goals ((apply WPY_take 1 rfl (by decide +kernel) rfl (by decide +kernel) (by repeat (first | exact np_ret)) guard_none; (first | (apply g_load; first | exact WT_load (k := 0) rfl rfl rfl rfl)); exact rfl))
    all_goals ((apply WPY_pure 2 rfl (by decide +kernel) rfl (by repeat (first | exact np_ret)) guard_none; (first | (apply g_fld; first | exact WT_field rfl rfl rfl)); exact rfl))
    all_goals ((apply WPY_take 3 rfl (by decide +kernel) rfl (by decide +kernel) (by repeat (first | exact np_ret)) guard_none; (first | (apply g_load; first | exact WT_load (k := 0) rfl rfl rfl rfl)); exact rfl))
    all_goals (first | (apply WPY_one 4; exact (by decide +kernel); exact rfl; exact guard_none; exact (fun _ _ h => h); first | (apply g_callf; first | (refine WO_call Try.func36 rfl (used_any _ (by assumption) (by assumption)) rfl ?_; rintro _ _ ⟨rfl, rfl⟩))))
    all_goals ((apply WPY_pure 5 rfl (by decide +kernel) rfl (by repeat (first | exact np_ret)) guard_none; (first | (apply g_bin; first | exact WT_sub rfl rfl)); exact rfl))
    all_goals ((apply WPY_pure 6 rfl (by decide +kernel) rfl (by repeat (first | exact np_ret)) guard_none; (first | (apply g_bin; first | exact WT_mul rfl rfl)); exact rfl))
    all_goals ((apply WPY_pure 7 rfl (by decide +kernel) rfl (by repeat (first | exact np_ret)) guard_none; (first | exact WT_assign rfl); exact rfl))
    all_goals (refine WPY_done (by decide +kernel) ?_)
    all_goals ((repeat' (first | refine WP_ret ?_)))
    refine ⟨.inr rfl, ret1 rfl (.tmp rfl) (List.nil_sublist _) ⟨congrArg (exI .i64) ?_, rfl⟩⟩
    unfold jroom; rw [if_pos hok]
  · (repeat' (first | refine WP_seq ?_ | refine WP_region ?_ | refine WPL_nil ?_ | (apply WPL_t; (first | exact WT_assign rfl | (apply g_load; first | exact WT_loada2 (k := 0) rfl rfl rfl) | (apply g_bin; first | exact WT_neq rfl rfl)); exact rfl) | refine WP_ret ?_ | (apply WPL_op0; exact rfl; first | (apply g_callf; first | (refine WO_call Try.func17 rfl (jcheck_any _ _ _ (by assumption) (by assumption)) rfl ?_; rintro _ _ ⟨rfl, rfl⟩)) | (apply g_box; refine WO_box rfl ?_; intro _)) | (refine WP_cond rfl (fun hb => ?_) (fun hb => ?_) <;> (repeat (first | replace hb := dec_t hb | replace hb := dec_f hb | replace hb := not_t hb | replace hb := not_f hb)) <;> (try (exfalso; first | omega)))))
    refine ⟨.inr rfl, ret1 rfl (.tmp rfl) (List.nil_sublist _) ⟨congrArg (exI .i64) ?_, rfl⟩⟩
    unfold jroom; rw [if_neg hok]

set_option maxRecDepth 100000 in
theorem roomR_any (o : List (List UInt8)) (m s : Int) (ho : o.length < 2 ^ 20) (hall : ∀ b ∈ o, b.length < 2 ^ 40) : FnC Try.prog 20 [jr o m s] [] (fun p loc => p = exI .i64 (jroom o m s) ∧ loc = []) := by
  refine FnC_enter Try.func20 rfl Try.ntmps20 rfl fun w0 F0 out => ?_
  rcases jchk_cases o m s with ⟨hok, hc⟩ | ⟨hok, hc⟩
  · have hok2 := hok
    obtain ⟨h1, h2, h3, h4, h5⟩ := hok2
    (repeat' (first | refine WP_seq ?_ | refine WP_region ?_ | refine WPL_nil ?_ | (apply WPL_t; (first | exact WT_assign rfl | (apply g_load; first | exact WT_loada2 (k := 0) rfl rfl rfl) | (apply g_bin; first | exact WT_neq rfl rfl)); exact rfl) | refine WP_skip ?_ | (apply WPL_op0; exact rfl; first | (apply g_callf; first | (refine WO_call Try.func18 rfl (jcheckR_any _ _ _ (by assumption) (by assumption)) rfl ?_; rintro _ _ ⟨rfl, rfl⟩)) | (apply g_box; refine WO_box rfl ?_; intro _)) | (refine WP_cond rfl (fun hb => ?_) (fun hb => ?_) <;> (repeat (first | replace hb := dec_t hb | replace hb := dec_f hb | replace hb := not_t hb | replace hb := not_f hb)) <;> (try (exfalso; first | omega)))))
    (refine WP_drawl 8 rfl ?_)
    all_goals ((apply WPY_pure 0 rfl (by decide +kernel) rfl (by repeat (first | exact np_ret)) guard_none; (first | (apply g_fld; first | exact WT_field rfl rfl rfl)); exact rfl))
    all_goals ((apply WPY_take 1 rfl (by decide +kernel) rfl (by decide +kernel) (by repeat (first | exact np_ret)) guard_none; (first | (apply g_load; first | exact WT_load (k := 0) rfl rfl rfl rfl)); exact rfl))
    all_goals ((apply WPY_pure 2 rfl (by decide +kernel) rfl (by repeat (first | exact np_ret)) guard_none; (first | (apply g_fld; first | exact WT_field rfl rfl rfl)); exact rfl))
    all_goals ((apply WPY_take 3 rfl (by decide +kernel) rfl (by decide +kernel) (by repeat (first | exact np_ret)) guard_none; (first | (apply g_load; first | exact WT_load (k := 0) rfl rfl rfl rfl)); exact rfl))
    all_goals (first | (apply WPY_one 4; exact (by decide +kernel); exact rfl; exact guard_none; exact (fun _ _ h => h); first | (apply g_callf; first | (refine WO_call Try.func40 rfl (usedR_any _ (by assumption) (by assumption)) rfl ?_; rintro _ _ ⟨rfl, rfl⟩))))
    all_goals ((apply WPY_pure 5 rfl (by decide +kernel) rfl (by repeat (first | exact np_ret)) guard_none; (first | (apply g_bin; first | exact WT_sub rfl rfl)); exact rfl))
    all_goals ((apply WPY_pure 6 rfl (by decide +kernel) rfl (by repeat (first | exact np_ret)) guard_none; (first | (apply g_bin; first | exact WT_mul rfl rfl)); exact rfl))
    all_goals ((apply WPY_pure 7 rfl (by decide +kernel) rfl (by repeat (first | exact np_ret)) guard_none; (first | exact WT_assign rfl); exact rfl))
    all_goals (refine WPY_done (by decide +kernel) ?_)
    all_goals ((repeat' (first | refine WP_ret ?_)))
    refine ⟨.inr rfl, ret1 rfl (.tmp rfl) (List.nil_sublist _) ⟨congrArg (exI .i64) ?_, rfl⟩⟩
    unfold jroom; rw [if_pos hok]
  · (repeat' (first | refine WP_seq ?_ | refine WP_region ?_ | refine WPL_nil ?_ | (apply WPL_t; (first | exact WT_assign rfl | (apply g_load; first | exact WT_loada2 (k := 0) rfl rfl rfl) | (apply g_bin; first | exact WT_neq rfl rfl)); exact rfl) | refine WP_ret ?_ | (apply WPL_op0; exact rfl; first | (apply g_callf; first | (refine WO_call Try.func18 rfl (jcheckR_any _ _ _ (by assumption) (by assumption)) rfl ?_; rintro _ _ ⟨rfl, rfl⟩)) | (apply g_box; refine WO_box rfl ?_; intro _)) | (refine WP_cond rfl (fun hb => ?_) (fun hb => ?_) <;> (repeat (first | replace hb := dec_t hb | replace hb := dec_f hb | replace hb := not_t hb | replace hb := not_f hb)) <;> (try (exfalso; first | omega)))))
    refine ⟨.inr rfl, ret1 rfl (.tmp rfl) (List.nil_sublist _) ⟨congrArg (exI .i64) ?_, rfl⟩⟩
    unfold jroom; rw [if_neg hok]

end Go.Proofs.Ytmghnjahjeinnaa

/- SameRecords and Same. -/
namespace Go.Proofs.Ytmghnjahjeinnaa
open Go Go.RowKit Go.Kx Go.Fr

theorem ba_toArray_inj (a b : List UInt8) : (⟨a.toArray⟩ : ByteArray) = ⟨b.toArray⟩ ↔ a = b := by
  constructor
  · intro h; have := congrArg (fun x : ByteArray => x.data.toList) h; simpa using this
  · rintro rfl; rfl

set_option maxRecDepth 100000 in
theorem sameRec_any (a b : List (List UInt8)) (ha : a.length < 2 ^ 62) (hb : b.length < 2 ^ 62) : FnC Try.prog 24 [isl (eSl eByte) a, isl (eSl eByte) b] [] (fun p loc => p = exB (decide (a = b)) ∧ loc = []) := by
  refine FnC_enter Try.func24 rfl Try.ntmps24 rfl fun w0 F0 out => ?_
  by_cases hl : a.length = b.length
  · (repeat' (first | refine WP_seq ?_ | refine WP_region ?_ | refine WPL_nil ?_ | (apply WPL_t; (first | exact WT_move rfl | exact WT_assign rfl | (apply g_bin; first | exact WT_neq rfl rfl) | (apply g_call; first | exact WT_len rfl rfl)); exact rfl) | refine WP_block ?_ | refine WP_skip ?_ | (refine WP_cond rfl (fun hb => ?_) (fun hb => ?_) <;> (repeat (first | replace hb := dec_t hb | replace hb := dec_f hb | replace hb := not_t hb | replace hb := not_f hb)) <;> (try (exfalso; first | omega)))))
    refine WP_loop (fun k : Nat => ([(0, isl (eSl eByte) a), (1, isl (eSl eByte) b), (5, exI .i64 k)], [])) (fun k => k ≤ a.length ∧ ∀ i, i < k → a[i]? = b[i]?) (fun k => a.length - k) 0 ?_ ⟨by omega, fun i h => absurd h (by omega)⟩ fun k hk => ?_
    · exact Leads_env (by repeat (first | exact sub_nil | refine sub_cons rfl ?_)) (List.Sublist.refl _)
    obtain ⟨hk, hpre⟩ := hk
    (repeat' (first | refine WP_seq ?_ | refine WP_region ?_ | refine WPL_nil ?_ | (apply WPL_t; (first | exact WT_move rfl | exact WT_assign rfl | (apply g_bin; first | exact WT_lss rfl rfl) | (apply g_call; first | exact WT_len rfl rfl)); exact rfl) | refine WP_block ?_ | refine WP_skip ?_ | refine WP_ret ?_ | refine WP_exit ?_ | (refine WP_cond rfl (fun hb => ?_) (fun hb => ?_) <;> (repeat (first | replace hb := dec_t hb | replace hb := dec_f hb)) <;> (try (exfalso; first | fail)))))
    ·
      (refine WP_drawl 11 rfl ?_)
      all_goals ((apply WPY_pure 0 rfl (by decide +kernel) rfl (by repeat (first | exact np_ret)) guard_none; (first | exact WT_move rfl); exact rfl))
      all_goals ((apply WPY_pure 1 rfl (by decide +kernel) rfl (by repeat (first | exact np_ret)) guard_none; (first | exact WT_move rfl); exact rfl))
      all_goals ((apply WPY_pure 2 rfl (by decide +kernel) rfl (by repeat (first | exact np_ret)) guard_none; (first | (apply g_index; first | exact WT_index rfl rfl rfl)); exact rfl))
      all_goals ((apply WPY_take 3 rfl (by decide +kernel) rfl (by decide +kernel) (by repeat (first | exact np_ret)) guard_none; (first | (apply g_load; first | exact WT_loadf rfl rfl)); exact rfl))
      all_goals (first | (apply WPY_take 4 rfl (by decide +kernel) rfl (by decide +kernel) (by repeat (first | exact np_ret)) guard_none; (first | (apply g_conv; first | exact WT_b2s rfl rfl rfl rfl)); exact rfl))
      all_goals ((apply WPY_pure 5 rfl (by decide +kernel) rfl (by repeat (first | exact np_ret)) guard_none; (first | exact WT_move rfl); exact rfl))
      all_goals ((apply WPY_pure 6 rfl (by decide +kernel) rfl (by repeat (first | exact np_ret)) guard_none; (first | exact WT_move rfl); exact rfl))
      all_goals ((apply WPY_pure 7 rfl (by decide +kernel) rfl (by repeat (first | exact np_ret)) guard_none; (first | (apply g_index; first | exact WT_index rfl rfl rfl)); exact rfl))
      all_goals ((apply WPY_take 8 rfl (by decide +kernel) rfl (by decide +kernel) (by repeat (first | exact np_ret)) guard_none; (first | (apply g_load; first | exact WT_loadf rfl rfl)); exact rfl))
      all_goals (first | (apply WPY_take 9 rfl (by decide +kernel) rfl (by decide +kernel) (by repeat (first | exact np_ret)) guard_none; (first | (apply g_conv; first | exact WT_b2s rfl rfl rfl rfl)); exact rfl))
      all_goals ((apply WPY_pure 10 rfl (by decide +kernel) rfl (by repeat (first | exact np_ret)) guard_none; (first | (apply g_bin; first | exact WT_sne rfl rfl)); exact rfl))
      all_goals (refine WPY_done (by decide +kernel) ?_)
      (repeat' (first | refine WP_seq ?_ | refine WP_region ?_ | refine WPL_nil ?_ | (apply WPL_t; (first | exact WT_move rfl | exact WT_assign rfl | (apply g_bin; first | exact WT_add rfl rfl)); exact rfl) | refine WP_skip ?_ | refine WP_ret ?_ | (refine WP_cond rfl (fun hb => ?_) (fun hb => ?_) <;> (repeat (first | replace hb := dec_t hb | replace hb := dec_f hb | replace hb := not_t hb | replace hb := not_f hb)) <;> (try (exfalso; first | fail)))))
      · refine ⟨.inr rfl, ret1 rfl (.tmp rfl) (List.nil_sublist _) ⟨congrArg exB ?_, rfl⟩⟩
        symm
        rw [decide_eq_false_iff_not]
        intro he
        have he2 : a[k]'(by omega) = b[k]'(by omega) := by simp only [he]
        have hb3 := hb
        simp only [ba_toArray_inj] at hb3
        exact hb3 he2
      · refine ⟨k + 1, ⟨by omega, fun i hi => ?_⟩, by omega, Leads_env (sub_cons rfl (sub_cons rfl (sub_cons rfl sub_nil))) (List.Sublist.refl _)⟩
        rcases Nat.lt_or_ge i k with h | h
        · exact hpre i h
        · have : i = k := by omega
          subst this
          rw [List.getElem?_eq_getElem (by omega), List.getElem?_eq_getElem (by omega)]
          have hb3 := hb
          simp only [Decidable.not_not, ba_toArray_inj] at hb3
          rw [hb3]
    · refine ⟨.inr rfl, ret1 rfl (.tmp rfl) (List.nil_sublist _) ⟨congrArg exB ?_, rfl⟩⟩
      symm
      rw [decide_eq_true_iff]
      apply List.ext_getElem?
      intro i
      rcases Nat.lt_or_ge i k with h | h
      · exact hpre i h
      · rw [List.getElem?_eq_none (by omega), List.getElem?_eq_none (by omega)]
  · (repeat' (first | refine WP_seq ?_ | refine WP_region ?_ | refine WPL_nil ?_ | (apply WPL_t; (first | exact WT_move rfl | exact WT_assign rfl | (apply g_bin; first | exact WT_neq rfl rfl) | (apply g_call; first | exact WT_len rfl rfl)); exact rfl) | refine WP_ret ?_ | (refine WP_cond rfl (fun hb => ?_) (fun hb => ?_) <;> (repeat (first | replace hb := dec_t hb | replace hb := dec_f hb | replace hb := not_t hb | replace hb := not_f hb)) <;> (try (exfalso; first | omega)))))
    refine ⟨.inr rfl, ret1 rfl (.tmp rfl) (List.nil_sublist _) ⟨congrArg exB ?_, rfl⟩⟩
    symm
    rw [decide_eq_false_iff_not]
    intro he
    exact hl (by rw [he])

set_option maxRecDepth 100000 in
theorem jsame_any (a b : List (List UInt8)) (m s m' s' : Int) (ha : a.length < 2 ^ 62) (hb : b.length < 2 ^ 62) : FnC Try.prog 14 [jr a m s, jr b m' s'] [] (fun p loc => p = exB (decide (m = m' ∧ s = s' ∧ a = b)) ∧ loc = []) := by
  refine FnC_enter Try.func14 rfl Try.ntmps14 rfl fun w0 F0 out => ?_
  by_cases h1 : m = m'
  · by_cases h2 : s = s'
    · (repeat' (first | refine WP_seq ?_ | refine WP_region ?_ | refine WPL_nil ?_ | (apply WPL_t; (first | exact WT_move rfl | exact WT_assign rfl | exact WT_pick (b := true) rfl (fun _ => rfl) (fun e => by cases e) | (apply g_load; first | exact WT_load (k := 0) rfl rfl rfl rfl | exact WT_load (k := 1) rfl rfl rfl rfl) | (apply g_fld; first | exact WT_field rfl rfl rfl) | (apply g_bin; first | exact WT_eql rfl rfl)); exact rfl) | (apply WPL_gt; exact rfl; exact rfl; exact rfl; (first | (apply g_load; first | exact WT_load (k := 0) rfl rfl rfl rfl | exact WT_load (k := 1) rfl rfl rfl rfl) | (apply g_fld; first | exact WT_field rfl rfl rfl) | (apply g_bin; first | exact WT_eql rfl rfl)); exact rfl) | refine WP_ret ?_ | (apply WPL_op0; exact rfl; first | (apply g_box; refine WO_box rfl ?_; intro _)) | (apply WPL_on0; exact rfl; exact rfl; exact rfl; exact rfl; (apply g_callf; first | (refine WO_call Try.func24 rfl (sameRec_any _ _ (by assumption) (by assumption)) rfl ?_; rintro _ _ ⟨rfl, rfl⟩))) | (refine WPL_case rfl rfl (fun hb => ?_) (fun hb => ?_) <;> (repeat (first | replace hb := dec_t hb | replace hb := dec_f hb)) <;> (try (exfalso; first | omega)))))
      all_goals (refine ⟨.inr rfl, ret1 rfl (.tmp rfl) (List.nil_sublist _) ⟨congrArg exB ?_, rfl⟩⟩)
      all_goals (simp [h1, h2])
    · (repeat' (first | refine WP_seq ?_ | refine WP_region ?_ | refine WPL_nil ?_ | (apply WPL_t; (first | exact WT_move rfl | exact WT_assign rfl | exact WT_pick (b := true) rfl (fun _ => rfl) (fun e => by cases e) | exact WT_pick (b := false) rfl (fun e => by cases e) (fun _ => rfl) | (apply g_load; first | exact WT_load (k := 0) rfl rfl rfl rfl | exact WT_load (k := 1) rfl rfl rfl rfl) | (apply g_fld; first | exact WT_field rfl rfl rfl) | (apply g_bin; first | exact WT_eql rfl rfl)); exact rfl) | (refine WPL_off rfl rfl rfl rfl rfl ?_) | (apply WPL_gt; exact rfl; exact rfl; exact rfl; (first | (apply g_load; first | exact WT_load (k := 0) rfl rfl rfl rfl | exact WT_load (k := 1) rfl rfl rfl rfl) | (apply g_fld; first | exact WT_field rfl rfl rfl) | (apply g_bin; first | exact WT_eql rfl rfl)); exact rfl) | refine WP_ret ?_ | (apply WPL_op0; exact rfl; first | (apply g_box; refine WO_box rfl ?_; intro _)) | (refine WPL_case rfl rfl (fun hb => ?_) (fun hb => ?_) <;> (repeat (first | replace hb := dec_t hb | replace hb := dec_f hb)) <;> (try (exfalso; first | omega)))))
      all_goals (refine ⟨.inr rfl, ret1 rfl (.tmp rfl) (List.nil_sublist _) ⟨congrArg exB ?_, rfl⟩⟩)
      all_goals (simp [h1, h2])
  · (repeat' (first | refine WP_seq ?_ | refine WP_region ?_ | refine WPL_nil ?_ | (apply WPL_t; (first | exact WT_move rfl | exact WT_assign rfl | exact WT_pick (b := false) rfl (fun e => by cases e) (fun _ => rfl) | (apply g_load; first | exact WT_load (k := 0) rfl rfl rfl rfl | exact WT_load (k := 1) rfl rfl rfl rfl) | (apply g_fld; first | exact WT_field rfl rfl rfl) | (apply g_bin; first | exact WT_eql rfl rfl)); exact rfl) | (refine WPL_off rfl rfl rfl rfl rfl ?_) | refine WP_ret ?_ | (apply WPL_op0; exact rfl; first | (apply g_box; refine WO_box rfl ?_; intro _)) | (refine WPL_case rfl rfl (fun hb => ?_) (fun hb => ?_) <;> (repeat (first | replace hb := dec_t hb | replace hb := dec_f hb)) <;> (try (exfalso; first | omega)))))
    all_goals (refine ⟨.inr rfl, ret1 rfl (.tmp rfl) (List.nil_sublist _) ⟨congrArg exB ?_, rfl⟩⟩)
    all_goals (simp [h1])

end Go.Proofs.Ytmghnjahjeinnaa

/- Clip, Clone and Append. -/
namespace Go.Proofs.Ytmghnjahjeinnaa
open Go Go.RowKit Go.Kx Go.Fr

set_option maxRecDepth 100000 in
theorem clipB_any (o : List (List UInt8)) : FnC Try.prog 37 [isl (eSl eByte) o] [] (fun p loc => p = islc (eSl eByte) o ∧ loc = []) := by
  refine FnC_enter Try.func37 rfl Try.ntmps37 rfl fun w0 F0 out => ?_
  (repeat' (first | refine WP_seq ?_ | refine WP_region ?_ | refine WPL_nil ?_ | (apply WPL_t; (first | exact WT_move rfl | exact WT_assign rfl | (apply g_slice; first | exact WT_clip rfl rfl rfl rfl) | (apply g_call; first | exact WT_len rfl rfl)); exact rfl) | refine WP_ret ?_))
  refine ⟨.inr rfl, ret1 rfl (.tmp rfl) (List.nil_sublist _) ⟨rfl, rfl⟩⟩

set_option maxRecDepth 100000 in
theorem cloneY_fr (b : List UInt8) (hb : b.length < 2 ^ 40) : FnC Try.prog 38 [isl eByte b] [] (fun p loc => p = isl eByte b ∧ loc = []) := by
  refine FnC_enter Try.func38 rfl Try.ntmps38 rfl fun w0 F0 out => ?_
  (repeat' (first | refine WP_seq ?_ | refine WP_region ?_ | refine WPL_nil ?_ | (apply WPL_t; (first | exact WT_move rfl | exact WT_assign rfl); exact rfl) | refine WP_skip ?_ | refine WP_ret ?_ | (apply WPL_op0; exact rfl; first | (apply g_append; (first | (refine WO_append_row (k := 0) (l0 := []) rfl rfl rfl rfl (by first | exact Src_isl rfl) rfl ?_)); intro _) | (apply g_binE; refine WO_isnil rfl rfl rfl ?_; intro _ _) | (apply g_bslice; (first | refine WO_bslice0 rfl ?_); intro _)) | (refine WP_cond rfl (fun hb => ?_) (fun hb => ?_) <;> (repeat (first | fail)) <;> (try (exfalso; first | fail)))))
  · rename_i hnil
    obtain rfl := hnil hb
    apply retP_leads
    · exact ((LeadsS_nil (E := eByte) (t := 2) rfl).leads)
    · refine ⟨.inr rfl, ret1 rfl (.tmp rfl) (List.nil_sublist _) ⟨rfl, rfl⟩⟩
  · apply retP_leads
    · exact Leads_fvec (k := 0) (t := 2) (E := eByte) b rfl rfl rfl (by simp)
    · refine ⟨.inr rfl, ret1 rfl (.tmp rfl) (List.nil_sublist _) ⟨rfl, rfl⟩⟩

/-- No journal. -/
theorem im_jr0 : Im (agg [ex (.slice none 0 0), exI .i64 0, exI .i64 0]) (jr [] 0 0) := Ims.agg (.cons .nil (.cons (.refl _) (.cons (.refl _) .nil)))

/-- Append: the journal then, and the error. -/
def appF (o : List (List UInt8)) (m s : Int) (b : List UInt8) : (List (List UInt8) × Int × Int) × Int :=
  if jOK o m s then (if m - usedN o < secsN b.length then (([], 0, 0), 2) else ((o ++ [b], m, s), 0)) else (([], 0, 0), 1)

set_option maxHeartbeats 1000000 in
set_option maxRecDepth 100000 in
theorem append_any (o : List (List UInt8)) (m s : Int) (b : List UInt8) (ho : o.length < 2 ^ 20) (hall : ∀ b ∈ o, b.length < 2 ^ 40) (hb : b.length < 2 ^ 40) : FnC Try.prog 15 [jr o m s, isl eByte b] [] (fun p loc => p = tup [jr (appF o m s b).1.1 (appF o m s b).1.2.1 (appF o m s b).1.2.2, exI .i64 (appF o m s b).2] ∧ loc = []) := by
  refine FnC_enter Try.func15 rfl Try.ntmps15 rfl fun w0 F0 out => ?_
  rcases jchk_cases o m s with ⟨hok, hc⟩ | ⟨hok, hc⟩
  · have hok2 := hok
    obtain ⟨h1, h2, h3, h4, h5⟩ := hok2
    (repeat' (first | refine WP_seq ?_ | refine WP_region ?_ | refine WPL_nil ?_ | (apply WPL_t; (first | exact WT_move rfl | exact WT_assign rfl | (apply g_load; first | exact WT_loada2 (k := 1) rfl rfl rfl) | (apply g_bin; first | exact WT_neq rfl rfl)); exact rfl) | refine WP_skip ?_ | (apply WPL_op0; exact rfl; first | (apply g_callf; first | (refine WO_call Try.func17 rfl (jcheck_any _ _ _ (by assumption) (by assumption)) rfl ?_; rintro _ _ ⟨rfl, rfl⟩)) | (apply g_box; refine WO_box rfl ?_; intro _) | (apply g_alloc; refine WO_alloc ?_; intro _)) | (refine WP_cond rfl (fun hb => ?_) (fun hb => ?_) <;> (repeat (first | replace hb := dec_t hb | replace hb := dec_f hb | replace hb := not_t hb | replace hb := not_f hb)) <;> (try (exfalso; first | omega)))))
    (refine WP_drawl 9 rfl ?_)
    all_goals ((apply WPY_pure 0 rfl (by decide +kernel) rfl (by repeat (first | exact np_ret)) guard_none; (first | exact WT_move rfl); exact rfl))
    all_goals ((apply WPY_pure 2 rfl (by decide +kernel) rfl (by repeat (first | exact np_ret)) guard_none; (first | (apply g_fld; first | exact WT_field rfl rfl rfl)); exact rfl))
    all_goals ((apply WPY_take 3 rfl (by decide +kernel) rfl (by decide +kernel) (by repeat (first | exact np_ret)) guard_none; (first | (apply g_load; first | exact WT_load (k := 1) rfl rfl rfl rfl)); exact rfl))
    all_goals ((apply WPY_pure 4 rfl (by decide +kernel) rfl (by repeat (first | exact np_ret)) guard_none; (first | (apply g_fld; first | exact WT_field rfl rfl rfl)); exact rfl))
    all_goals ((apply WPY_take 5 rfl (by decide +kernel) rfl (by decide +kernel) (by repeat (first | exact np_ret)) guard_none; (first | (apply g_load; first | exact WT_load (k := 1) rfl rfl rfl rfl)); exact rfl))
    all_goals (first | (apply WPY_one 1; exact (by decide +kernel); exact rfl; exact guard_none; exact (fun _ _ h => h); first | (apply g_callf; first | (refine WO_call Try.func35 rfl (sectors_any _ (by omega)) rfl ?_; rintro _ _ ⟨rfl, rfl⟩))))
    all_goals (first | (apply WPY_one 6; exact (by decide +kernel); exact rfl; exact guard_none; exact (fun _ _ h => h); first | (apply g_callf; first | (refine WO_call Try.func36 rfl (used_any _ (by assumption) (by assumption)) rfl ?_; rintro _ _ ⟨rfl, rfl⟩))))
    all_goals ((apply WPY_pure 7 rfl (by decide +kernel) rfl (by repeat (first | exact np_ret)) guard_none; (first | (apply g_bin; first | exact WT_sub rfl rfl)); exact rfl))
    all_goals ((apply WPY_pure 8 rfl (by decide +kernel) rfl (by repeat (first | exact np_ret)) guard_none; (first | (apply g_bin; first | exact WT_gtr rfl rfl)); exact rfl))
    all_goals (refine WPY_done (by decide +kernel) ?_)
    all_goals ((repeat' (first | (apply at_store; refine WPL_frow (k := 0) (E := eSl eByte) (t := 29) (o ++ [b]) rfl rfl flat_isl (by simp) ?_) | refine WP_seq ?_ | refine WP_region ?_ | refine WPL_nil ?_ | (apply WPL_t; (first | exact WT_move rfl | exact WT_assign rfl | (apply g_load; first | exact WT_load (k := 1) rfl rfl rfl rfl | exact WT_loada2 (k := 2) rfl rfl rfl) | (apply g_fld; first | exact WT_field rfl rfl rfl) | (apply g_build; first | exact WT_build2 rfl rfl (by repeat (first | exact PartsO.nil)))); exact rfl) | refine WP_skip ?_ | refine WP_ret ?_ | (apply WPL_op0; exact rfl; first | (apply g_callf; first | (refine WO_call Try.func37 rfl (clipB_any _) rfl ?_; rintro _ _ ⟨rfl, rfl⟩) | (refine WO_call Try.func38 rfl (cloneY_fr _ (by omega)) rfl ?_; rintro _ _ ⟨rfl, rfl⟩)) | (apply g_store; first | refine WO_store (k := 0) (l0 := []) rfl rfl rfl ?_ | refine WO_store (k := 1) (l0 := []) rfl rfl rfl ?_ | refine WO_store (k := 2) (l0 := []) rfl rfl rfl ?_) | (apply g_append; (first | (refine WO_append_clip rfl (by first | exact Src_rowW (k := 0) rfl rfl) rfl ?_; intro _ _ _)); intro _) | (apply g_bslice; (first | refine WO_bslice1 rfl rfl ?_); intro _)) | (refine WP_cond rfl (fun hb => ?_) (fun hb => ?_) <;> (repeat (first | replace hb := dec_t hb | replace hb := dec_f hb)) <;> (try (exfalso; first | fail))))))
    rotate_right
    · (first | refine ⟨.inr rfl, ret2 rfl (.cella (k := 0) rfl rfl rfl rfl inferInstance rfl) (.tmp rfl) (List.nil_sublist _) ⟨?_, rfl⟩⟩ | refine ⟨.inr rfl, ret2 rfl (.cella (k := 1) rfl rfl rfl rfl inferInstance rfl) (.tmp rfl) (List.nil_sublist _) ⟨?_, rfl⟩⟩ | refine ⟨.inr rfl, ret2 rfl (.cella (k := 2) rfl rfl rfl rfl inferInstance rfl) (.tmp rfl) (List.nil_sublist _) ⟨?_, rfl⟩⟩ | refine ⟨.inr rfl, ret2 rfl (.cella (k := 3) rfl rfl rfl rfl inferInstance rfl) (.tmp rfl) (List.nil_sublist _) ⟨?_, rfl⟩⟩)
      unfold appF; rw [if_pos hok, if_neg (by omega)]; rfl
    · (refine ⟨.inr rfl, retw (loc' := []) (by first | exact ret2 rfl (.cella (k := 0) rfl rfl rfl rfl inferInstance rfl) (.tmp rfl) (List.nil_sublist _) ⟨rfl, rfl⟩) ?_ ⟨rfl, rfl⟩⟩)
      unfold appF; rw [if_pos hok, if_pos (by omega)]
      exact Ims.tup (.cons im_jr0 (.cons (.refl _) .nil))
  · (repeat' (first | refine WP_seq ?_ | refine WP_region ?_ | refine WPL_nil ?_ | (apply WPL_t; (first | exact WT_move rfl | exact WT_assign rfl | (apply g_load; first | exact WT_loada2 (k := 1) rfl rfl rfl) | (apply g_bin; first | exact WT_neq rfl rfl) | (apply g_build; first | exact WT_build2 rfl rfl (by repeat (first | exact PartsO.nil)))); exact rfl) | refine WP_ret ?_ | (apply WPL_op0; exact rfl; first | (apply g_callf; first | (refine WO_call Try.func17 rfl (jcheck_any _ _ _ (by assumption) (by assumption)) rfl ?_; rintro _ _ ⟨rfl, rfl⟩)) | (apply g_box; refine WO_box rfl ?_; intro _) | (apply g_alloc; refine WO_alloc ?_; intro _) | (apply g_store; first | refine WO_store (k := 0) (l0 := []) rfl rfl rfl ?_)) | (refine WP_cond rfl (fun hb => ?_) (fun hb => ?_) <;> (repeat (first | replace hb := dec_t hb | replace hb := dec_f hb | replace hb := not_t hb | replace hb := not_f hb)) <;> (try (exfalso; first | omega)))))
    (refine ⟨.inr rfl, retw (loc' := []) (by first | exact ret2 rfl (.cella (k := 0) rfl rfl rfl rfl inferInstance rfl) (.tmp rfl) (List.nil_sublist _) ⟨rfl, rfl⟩) ?_ ⟨rfl, rfl⟩⟩)
    unfold appF; rw [if_neg hok, hc]
    exact Ims.tup (.cons im_jr0 (.cons (.refl _) .nil))

set_option maxHeartbeats 1000000 in
set_option maxRecDepth 100000 in
theorem appendR_any (o : List (List UInt8)) (m s : Int) (b : List UInt8) (ho : o.length < 2 ^ 20) (hall : ∀ b ∈ o, b.length < 2 ^ 40) (hb : b.length < 2 ^ 40) : FnC Try.prog 16 [jr o m s, isl eByte b] [] (fun p loc => p = tup [jr (appF o m s b).1.1 (appF o m s b).1.2.1 (appF o m s b).1.2.2, exI .i64 (appF o m s b).2] ∧ loc = []) := by
  refine FnC_enter Try.func16 rfl Try.ntmps16 rfl fun w0 F0 out => ?_
  rcases jchk_cases o m s with ⟨hok, hc⟩ | ⟨hok, hc⟩
  · have hok2 := hok
    obtain ⟨h1, h2, h3, h4, h5⟩ := hok2
    (repeat' (first | refine WP_seq ?_ | refine WP_region ?_ | refine WPL_nil ?_ | (apply WPL_t; (first | exact WT_move rfl | exact WT_assign rfl | (apply g_load; first | exact WT_loada2 (k := 1) rfl rfl rfl) | (apply g_bin; first | exact WT_neq rfl rfl)); exact rfl) | refine WP_skip ?_ | (apply WPL_op0; exact rfl; first | (apply g_callf; first | (refine WO_call Try.func18 rfl (jcheckR_any _ _ _ (by assumption) (by assumption)) rfl ?_; rintro _ _ ⟨rfl, rfl⟩)) | (apply g_box; refine WO_box rfl ?_; intro _) | (apply g_alloc; refine WO_alloc ?_; intro _)) | (refine WP_cond rfl (fun hb => ?_) (fun hb => ?_) <;> (repeat (first | replace hb := dec_t hb | replace hb := dec_f hb | replace hb := not_t hb | replace hb := not_f hb)) <;> (try (exfalso; first | omega)))))
    (refine WP_drawl 10 rfl ?_)
    all_goals ((apply WPY_pure 0 rfl (by decide +kernel) rfl (by repeat (first | exact np_ret)) guard_none; (first | exact WT_move rfl); exact rfl))
    all_goals ((apply WPY_pure 1 rfl (by decide +kernel) rfl (by repeat (first | exact np_ret)) guard_none; (first | (apply g_call; first | exact WT_len rfl rfl)); exact rfl))
    all_goals ((apply WPY_pure 3 rfl (by decide +kernel) rfl (by repeat (first | exact np_ret)) guard_none; (first | (apply g_fld; first | exact WT_field rfl rfl rfl)); exact rfl))
    all_goals ((apply WPY_take 4 rfl (by decide +kernel) rfl (by decide +kernel) (by repeat (first | exact np_ret)) guard_none; (first | (apply g_load; first | exact WT_load (k := 1) rfl rfl rfl rfl)); exact rfl))
    all_goals ((apply WPY_pure 5 rfl (by decide +kernel) rfl (by repeat (first | exact np_ret)) guard_none; (first | (apply g_fld; first | exact WT_field rfl rfl rfl)); exact rfl))
    all_goals ((apply WPY_take 6 rfl (by decide +kernel) rfl (by decide +kernel) (by repeat (first | exact np_ret)) guard_none; (first | (apply g_load; first | exact WT_load (k := 1) rfl rfl rfl rfl)); exact rfl))
    all_goals (first | (apply WPY_one 2; exact (by decide +kernel); exact rfl; exact guard_none; exact (fun _ _ h => h); first | (apply g_callf; first | (refine WO_call Try.func39 rfl (sectorsR_any _ (by omega)) rfl ?_; rintro _ _ ⟨rfl, rfl⟩))))
    all_goals (first | (apply WPY_one 7; exact (by decide +kernel); exact rfl; exact guard_none; exact (fun _ _ h => h); first | (apply g_callf; first | (refine WO_call Try.func40 rfl (usedR_any _ (by assumption) (by assumption)) rfl ?_; rintro _ _ ⟨rfl, rfl⟩))))
    all_goals ((apply WPY_pure 8 rfl (by decide +kernel) rfl (by repeat (first | exact np_ret)) guard_none; (first | (apply g_bin; first | exact WT_sub rfl rfl)); exact rfl))
    all_goals ((apply WPY_pure 9 rfl (by decide +kernel) rfl (by repeat (first | exact np_ret)) guard_none; (first | (apply g_bin; first | exact WT_gtr rfl rfl)); exact rfl))
    all_goals (refine WPY_done (by decide +kernel) ?_)
    all_goals ((repeat' (first | (apply at_store; refine WPL_fvec (k := 1) (E := eSl eByte) (t := 30) (o ++ [b]) rfl rfl flat_isl (by simp) ?_) | refine WP_seq ?_ | refine WP_region ?_ | refine WPL_nil ?_ | (apply WPL_t; (first | exact WT_move rfl | exact WT_assign rfl | (apply g_load; first | exact WT_load (k := 2) rfl rfl rfl rfl | exact WT_loada2 (k := 2) rfl rfl rfl) | (apply g_fld; first | exact WT_field rfl rfl rfl) | (apply g_build; first | exact WT_build2 rfl rfl (by repeat (first | exact PartsO.nil)))); exact rfl) | refine WP_skip ?_ | refine WP_ret ?_ | (apply WPL_op0; exact rfl; first | (apply g_store; first | refine WO_store (k := 0) (l0 := []) rfl rfl rfl ?_ | refine WO_store (k := 1) (l0 := []) rfl rfl rfl ?_ | refine WO_store (k := 2) (l0 := []) rfl rfl rfl ?_) | (apply g_append; (first | (refine WO_append_row (k := 0) (l0 := []) rfl rfl rfl rfl (by first | exact Src_isl rfl) rfl ?_) | (refine WO_append (k := 1) (l0 := []) rfl rfl (by first | exact Src_rowW (k := 0) rfl rfl) rfl ?_)); intro _) | (apply g_bslice; (first | refine WO_bslice1 rfl rfl ?_ | refine WO_bslice0 rfl ?_); intro _)) | (refine WP_cond rfl (fun hb => ?_) (fun hb => ?_) <;> (repeat (first | replace hb := dec_t hb | replace hb := dec_f hb)) <;> (try (exfalso; first | fail))))))
    rotate_right
    · (first | refine ⟨.inr rfl, ret2 rfl (.cella (k := 0) rfl rfl rfl rfl inferInstance rfl) (.tmp rfl) (List.nil_sublist _) ⟨?_, rfl⟩⟩ | refine ⟨.inr rfl, ret2 rfl (.cella (k := 1) rfl rfl rfl rfl inferInstance rfl) (.tmp rfl) (List.nil_sublist _) ⟨?_, rfl⟩⟩ | refine ⟨.inr rfl, ret2 rfl (.cella (k := 2) rfl rfl rfl rfl inferInstance rfl) (.tmp rfl) (List.nil_sublist _) ⟨?_, rfl⟩⟩ | refine ⟨.inr rfl, ret2 rfl (.cella (k := 3) rfl rfl rfl rfl inferInstance rfl) (.tmp rfl) (List.nil_sublist _) ⟨?_, rfl⟩⟩)
      unfold appF; rw [if_pos hok, if_neg (by omega)]; rfl
    · (refine ⟨.inr rfl, retw (loc' := []) (by first | exact ret2 rfl (.cella (k := 0) rfl rfl rfl rfl inferInstance rfl) (.tmp rfl) (List.nil_sublist _) ⟨rfl, rfl⟩) ?_ ⟨rfl, rfl⟩⟩)
      unfold appF; rw [if_pos hok, if_pos (by omega)]
      exact Ims.tup (.cons im_jr0 (.cons (.refl _) .nil))
  · (repeat' (first | refine WP_seq ?_ | refine WP_region ?_ | refine WPL_nil ?_ | (apply WPL_t; (first | exact WT_move rfl | exact WT_assign rfl | (apply g_load; first | exact WT_loada2 (k := 1) rfl rfl rfl) | (apply g_bin; first | exact WT_neq rfl rfl) | (apply g_build; first | exact WT_build2 rfl rfl (by repeat (first | exact PartsO.nil)))); exact rfl) | refine WP_ret ?_ | (apply WPL_op0; exact rfl; first | (apply g_callf; first | (refine WO_call Try.func18 rfl (jcheckR_any _ _ _ (by assumption) (by assumption)) rfl ?_; rintro _ _ ⟨rfl, rfl⟩)) | (apply g_box; refine WO_box rfl ?_; intro _) | (apply g_alloc; refine WO_alloc ?_; intro _) | (apply g_store; first | refine WO_store (k := 0) (l0 := []) rfl rfl rfl ?_)) | (refine WP_cond rfl (fun hb => ?_) (fun hb => ?_) <;> (repeat (first | replace hb := dec_t hb | replace hb := dec_f hb | replace hb := not_t hb | replace hb := not_f hb)) <;> (try (exfalso; first | omega)))))
    (refine ⟨.inr rfl, retw (loc' := []) (by first | exact ret2 rfl (.cella (k := 0) rfl rfl rfl rfl inferInstance rfl) (.tmp rfl) (List.nil_sublist _) ⟨rfl, rfl⟩) ?_ ⟨rfl, rfl⟩⟩)
    unfold appF; rw [if_neg hok, hc]
    exact Ims.tup (.cons im_jr0 (.cons (.refl _) .nil))

end Go.Proofs.Ytmghnjahjeinnaa

/- The disk's functions, as contracts of the frame. -/
namespace Go.Proofs.Ytmghnjahjeinnaa
open Go Go.RowKit Go.Kx Go.Fr

theorem chk_fr (D : Disk) : FnC Try.prog 31 [dsk D] [] (fun p loc => p = exI .i64 (checkF D) ∧ loc = []) := by
  refine FnC_of fun F w vals h => ?_
  obtain ⟨v, rfl, hv⟩ := cells1 h
  obtain ⟨sa, sn, sc, pa, pn, pc, rfl, h1, h2⟩ := dsk_of hv
  refine (check_any F w sa sn sc pa pn pc D.left D.stopped D.secs D.pend h1 h2).mono ?_
  rintro e w' ⟨rfl, hb⟩
  exact ⟨_, _, rfl, ⟨rfl, rfl⟩, rfl, hb⟩

theorem rchk_fr (D : Disk) : FnC Try.prog 33 [dsk D] [] (fun p loc => p = exI .i64 (checkF D) ∧ loc = []) := by
  refine FnC_of fun F w vals h => ?_
  obtain ⟨v, rfl, hv⟩ := cells1 h
  obtain ⟨sa, sn, sc, pa, pn, pc, rfl, h1, h2⟩ := dsk_of hv
  refine (rcheck_any F w sa sn sc pa pn pc D.left D.stopped D.secs D.pend h1 h2).mono ?_
  rintro e w' ⟨rfl, hb⟩
  exact ⟨_, _, rfl, ⟨rfl, rfl⟩, rfl, hb⟩

/-- A disk's number fits. -/
def DIn (D : Disk) : Prop := -9223372036854775808 ≤ D.left ∧ D.left ≤ 9223372036854775807

theorem restart_fr (D : Disk) (hD : DIn D) : FnC Try.prog 30 [dsk D] [] (fun p loc => p = dsk (restartF D) ∧ loc = []) := by
  refine FnC_of fun F w vals h => ?_
  obtain ⟨v, rfl, hv⟩ := cells1 h
  obtain ⟨sa, sn, sc, pa, pn, pc, rfl, h1, h2⟩ := dsk_of hv
  refine (restart_any F w sa sn sc pa pn pc D ⟨h1, h2, hD.1, hD.2⟩).mono ?_
  rintro e w' ⟨sa, sn, sc, pa, pn, pc, rfl, hD, hb⟩
  exact ⟨_, _, rfl, ⟨rfl, rfl⟩, dsk_to hD.secs hD.pend, hb⟩

theorem stop_fr (D : Disk) (left : Int) (hD : DIn D) (hl : -9223372036854775808 ≤ left ∧ left ≤ 9223372036854775807) : FnC Try.prog 29 [dsk D, exI .i64 left] [] (fun p loc => p = tup [dsk (stopF D left).1, exI .i64 (stopF D left).2] ∧ loc = []) := by
  refine FnC_of fun F w vals h => ?_
  obtain ⟨v, u, rfl, hv, rfl⟩ := h.two
  obtain ⟨sa, sn, sc, pa, pn, pc, rfl, h1, h2⟩ := dsk_of hv
  exact (stop_any F w sa sn sc pa pn pc D left hl ⟨h1, h2, hD.1, hD.2⟩).mono fun e w' h => Fr.RetDisk.fr h

theorem write_fr (D : Disk) (at_ : Int) (b : List UInt8) (hD : DIn D) (hl : -9223372036854775808 ≤ at_ ∧ at_ ≤ 9223372036854775807) : FnC Try.prog 26 [dsk D, exI .i64 at_, isl eByte b] [] (fun p loc => p = tup [dsk (writeF D at_ b).1, exI .i64 (writeF D at_ b).2] ∧ loc = []) := by
  refine FnC_of fun F w vals h => ?_
  obtain ⟨v, u, x, rfl, hv, rfl, ⟨ba, bn, bc, rfl, hb⟩⟩ := h.three
  obtain ⟨sa, sn, sc, pa, pn, pc, rfl, h1, h2⟩ := dsk_of hv
  exact (write_any F w sa sn sc pa pn pc ba bn bc D at_ b hl ⟨h1, h2, hD.1, hD.2⟩ hb).mono fun e w' h => Fr.RetDisk.fr h

theorem rwrite_fr (D : Disk) (at_ : Int) (b : List UInt8) (hD : DIn D) (hl : -9223372036854775808 ≤ at_ ∧ at_ ≤ 9223372036854775807) : FnC Try.prog 46 [dsk D, exI .i64 at_, isl eByte b] [] (fun p loc => p = tup [dsk (writeF D at_ b).1, exI .i64 (writeF D at_ b).2] ∧ loc = []) := by
  refine FnC_of fun F w vals h => ?_
  obtain ⟨v, u, x, rfl, hv, rfl, ⟨ba, bn, bc, rfl, hb⟩⟩ := h.three
  obtain ⟨sa, sn, sc, pa, pn, pc, rfl, h1, h2⟩ := dsk_of hv
  exact (rwrite_any F w sa sn sc pa pn pc ba bn bc D at_ b hl ⟨h1, h2, hD.1, hD.2⟩ hb).mono fun e w' h => Fr.RetDisk.fr h

theorem sync_fr (D : Disk) (hD : DIn D) : FnC Try.prog 27 [dsk D] [] (fun p loc => p = tup [dsk (syncF D).1, exI .i64 (syncF D).2] ∧ loc = []) := by
  refine FnC_of fun F w vals h => ?_
  obtain ⟨v, rfl, hv⟩ := cells1 h
  obtain ⟨sa, sn, sc, pa, pn, pc, rfl, h1, h2⟩ := dsk_of hv
  exact (sync_any F w sa sn sc pa pn pc D ⟨h1, h2, hD.1, hD.2⟩).mono fun e w' h => Fr.RetDisk.fr h

theorem new_fr (n : Int) : FnC Try.prog 25 [exI .i64 n] [] (fun p loc => p = tup [dsk (newF n).1, exI .i64 (newF n).2] ∧ loc = []) := by
  refine FnC_of fun F w vals h => ?_
  obtain ⟨v, rfl, rfl⟩ := cells1 h
  exact (new_any F w n).mono fun e w' h => Fr.RetDisk.fr h

theorem dsame_fr (D : Disk) (hD : DIn D) : FnC Try.prog 23 [dsk D, dsk D] [] (fun p loc => p = exB true ∧ loc = []) := by
  refine FnC_of fun F w vals h => ?_
  obtain ⟨v, u, rfl, hv, hu⟩ := h.two
  obtain ⟨sa, sn, sc, pa, pn, pc, rfl, h1, h2⟩ := dsk_of hv
  obtain ⟨ta, tn, tc, qa, qn, qc, rfl, k1, k2⟩ := dsk_of hu
  refine (same_true F F w sa sn sc pa pn pc ta tn tc qa qn qc D ⟨h1, h2, hD.1, hD.2⟩ ⟨k1, k2, hD.1, hD.2⟩).mono ?_
  rintro e w' ⟨rfl, hb⟩
  exact ⟨_, _, rfl, ⟨rfl, rfl⟩, rfl, hb⟩

theorem checkF_cases (D : Disk) : (Disk.ok D = true ∧ checkF D = 0) ∨ (Disk.ok D = false ∧ checkF D = 40) := by
  unfold checkF
  cases h : Disk.ok D
  · exact .inr ⟨rfl, rfl⟩
  · exact .inl ⟨rfl, rfl⟩

end Go.Proofs.Ytmghnjahjeinnaa
