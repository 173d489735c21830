/- The journal's iterator over the records. -/
import Derived.Test.YtmghnjahjeinnaaJour3
import Derived.Test.YtmghnjahjeinnaaFrame3
import Derived.Test.YtmghnjahjeinnaaDisk3
namespace Go.Proofs.Ytmghnjahjeinnaa
open Go Go.RowKit Go.Kx Go.Fr

/-- The records, each with the number of the sector behind it. -/
def pairsR (o : List (List UInt8)) : Nat → Nat → Nat → List (Nat × List UInt8)
  | 0, _, _ => []
  | f + 1, i, gen =>
    if (recordR o i).2 = 0 ∨ numN ((secAt o i).take 4) < gen then []
    else (i + (recordR o i).2, (recordR o i).1) :: pairsR o f (i + (recordR o i).2) (numN ((secAt o i).take 4))
def pairsF (o : List (List UInt8)) : List (Nat × List UInt8) := pairsR o (o.length + 1) 0 0
theorem recsR_pairs (o : List (List UInt8)) (f i gen : Nat) (acc : List (List UInt8)) : recsR o f i gen acc = acc ++ (pairsR o f i gen).map (·.2) := by
  induction f generalizing i gen acc with
  | zero => simp [recsR, pairsR]
  | succ f ih =>
    rw [recsR, pairsR]
    split
    · simp
    · rw [ih]; simp
theorem recordsR_pairs (o : List (List UInt8)) : recordsR o = (pairsF o).map (·.2) := by
  unfold recordsR pairsF; rw [recsR_pairs]; simp

def encP (x : Nat × List UInt8) : List SP := [exI .i64 x.1, isl eByte x.2]

theorem goodR_kind {s : List UInt8} {n : Nat} (h : goodR s n = true) : kindS s ≤ 3 := by
  unfold goodR headR at h
  simp only [Bool.and_eq_true, decide_eq_true_eq] at h
  exact h.1.2.2.2.2.1
theorem badR_gen {o : List (List UInt8)} {n i : Nat} (h : badR o n i = false) (hi : 0 < i) : numN ((secAt o (n + i)).take 4) = numN ((secAt o n).take 4) := by
  unfold badR at h
  simp only [Bool.or_eq_false_iff, Bool.and_eq_false_iff, decide_eq_false_iff_not] at h
  rcases h.2.2 with h | h
  · exact absurd hi h
  · exact Decidable.not_not.1 h
theorem badR_good {o : List (List UInt8)} {n i : Nat} (h : badR o n i = false) : goodR (secAt o (n + i)) (n + i) = true := by
  unfold badR at h
  simp only [Bool.or_eq_false_iff] at h
  simpa using h.1
theorem dk (k : Nat) : decide ((k : Int) % 2 = 0) = !decide (k % 2 = 1) := by
  rcases Nat.mod_two_eq_zero_or_one k with h | h
  · have : (k : Int) % 2 = 0 := by omega
    simp [this, h]
  · have : (k : Int) % 2 = 1 := by omega
    simp [this, h]
theorem di (a i : Nat) : decide ((a : Int) + (i : Int) = (a : Int)) = decide (i = 0) := by
  by_cases h : i = 0
  · simp [h]
  · have : ¬ (a : Int) + (i : Int) = (a : Int) := by omega
    simp [h, this]
theorem and1_mod (k : Nat) : k &&& 1 = k % 2 := Nat.and_one_is_mod k
theorem and2_ge {k : Nat} (h : k ≤ 3) : (k &&& 2 = 0) ↔ ¬ 2 ≤ k := by
  have : k = 0 ∨ k = 1 ∨ k = 2 ∨ k = 3 := by omega
  rcases this with rfl | rfl | rfl | rfl <;> decide

theorem pairsR_succ (o : List (List UInt8)) (f i gen : Nat) : pairsR o (f + 1) i gen = if (recordR o i).2 = 0 ∨ numN ((secAt o i).take 4) < gen then [] else (i + (recordR o i).2, (recordR o i).1) :: pairsR o f (i + (recordR o i).2) (numN ((secAt o i).take 4)) := rfl
theorem recR_succ (o : List (List UInt8)) (n f i : Nat) (acc : List UInt8) : recR o n (f + 1) i acc = if n + i < o.length then (if badR o n i then ([], 0) else if 2 ≤ kindS (secAt o (n + i)) then (acc ++ payS (secAt o (n + i)), i + 1) else recR o n f (i + 1) (acc ++ payS (secAt o (n + i)))) else ([], 0) := rfl
theorem badR_eq (o : List (List UInt8)) (ho : o.length < 2 ^ 16) (hall : ∀ s ∈ o, s.length = 128) (n i : Nat) (h : n + i < o.length) :
    badR o n i = (!goodF o[n + i] (n + i) || (decide ((o[n + i][10]'(by rw [hall _ (List.getElem_mem _)]; omega)).toNat % 2 = 1) != decide (i = 0) || (decide (0 < i) && decide (getF (o[n + i].take 4) ≠ getF (o[n].take 4))))) := by
  have h1 : secAt o (n + i) = o[n + i] := by unfold secAt; rw [List.getElem?_eq_getElem h]; rfl
  have h2 : secAt o n = o[n] := by unfold secAt; rw [List.getElem?_eq_getElem (by omega)]; rfl
  have h3 : o[n + i].length = 128 := hall _ (List.getElem_mem _)
  have h4 : o[n].length = 128 := hall _ (List.getElem_mem _)
  unfold badR kindS
  rw [h1, h2, good_same _ _ h3 (by omega), getF_num _ (by rw [List.length_take]; omega), getF_num _ (by rw [List.length_take]; omega), List.getElem?_eq_getElem (by omega)]
  rfl
theorem payS_eq {s : List UInt8} (h : s.length = 128) : payS s = (s.take (12 + (s[11]'(by omega)).toNat)).drop 12 := by unfold payS; rw [List.getElem?_eq_getElem (by omega)]; rfl
theorem kindS_eq {s : List UInt8} (h : s.length = 128) : kindS s = (s[10]'(by omega)).toNat := by unfold kindS; rw [List.getElem?_eq_getElem (by omega)]; rfl
attribute [local irreducible] recordR numN recsR recR pairsR getF goodF goodR badR kindS payS

set_option maxHeartbeats 4000000 in
set_option maxRecDepth 100000 in
theorem recs1_gen (o : List (List UInt8)) (ho : o.length < 2 ^ 16) (hall : ∀ s ∈ o, s.length = 128) : GenC Try.prog 60 [fp [isl (eSl eByte) o]] encP (pairsF o) := by
  intro l St loc0 h0 hY
  refine FnC_enter Try.func60 rfl Try.ntmps60 rfl fun w0 F0 out => ?_
  (repeat' (first | refine WP_scope ?_ | refine WP_label ?_ | refine WP_seq ?_ | refine WP_region ?_ | refine WPL_nil ?_ | (apply WPL_t; (first | exact WT_assign rfl); exact rfl) | refine WP_block ?_))
  refine WP_loop (fun x : Nat × Nat × List (Nat × List UInt8) × List Ent => ([(0, ex (.func (.yield l) #[] #[])), (1, fp [isl (eSl eByte) o]), (3, exI .i64 x.1), (4, exI .u64 x.2.1)], x.2.2.2)) (fun x => x.1 ≤ o.length ∧ x.2.1 < 2 ^ 64 ∧ St x.2.2.1 x.2.2.2 ∧ ∃ f, o.length < f + x.1 ∧ pairsF o = x.2.2.1 ++ pairsR o f x.1 x.2.1) (fun x => o.length - x.1) (0, 0, [], loc0) ?_ ⟨by dsimp only; omega, by dsimp only; omega, h0, o.length + 1, by dsimp only; omega, rfl⟩ fun x hx => ?_
  · exact Leads_env (by repeat (first | exact sub_nil | refine sub_cons rfl ?_)) (List.Sublist.refl _)
  obtain ⟨at_, last, pre, bl⟩ := x
  obtain ⟨hat, hlast, hSt, f, hf, hpairs⟩ := hx
  dsimp only at hat hlast hSt hf hpairs ⊢
  obtain ⟨f, rfl⟩ : ∃ g, f = g + 1 := ⟨f - 1, by omega⟩
  rw [pairsR_succ] at hpairs
  have hend : (recordR o at_).2 = 0 ∨ numN ((secAt o at_).take 4) < last → St (pairsF o) bl := fun h => by rw [hpairs, if_pos h, List.append_nil]; exact hSt
  (repeat' (first | refine WP_seq ?_ | refine WP_region ?_ | refine WPL_nil ?_ | (apply WPL_t; (first | exact WT_move rfl | exact WT_assign rfl); exact rfl) | refine WP_block ?_))
  refine WP_loop (fun x : Nat × Value × List UInt8 => ([(0, ex (.func (.yield l) #[] #[])), (1, fp [isl (eSl eByte) o]), (3, exI .i64 at_), (4, exI .u64 last), (5, ex x.2.1), (6, exI .i64 x.1)], vec x.2.1 5 1 x.2.2.length (x.2.2.map ub) :: bl)) (fun x => at_ ≤ x.1 ∧ x.1 ≤ o.length ∧ x.2.2.length ≤ 112 * (x.1 - at_) ∧ recordR o at_ = recR o at_ (o.length + 1 - (x.1 - at_)) (x.1 - at_) x.2.2 ∧ (at_ < x.1 → last ≤ numN ((secAt o at_).take 4))) (fun x => o.length - x.1) (at_, .slice none 0 0, []) ?_ ⟨Nat.le_refl _, hat, by simp, by rw [Nat.sub_self]; unfold recordR; rfl, fun h => absurd h (Nat.lt_irrefl _)⟩ fun x hx => ?_
  · exact Leads_then LeadsS_vec_nil (Leads_env (by repeat (first | exact sub_nil | refine sub_cons rfl ?_)) (List.Sublist.refl _))
  obtain ⟨n, v, acc⟩ := x
  obtain ⟨hn1, hn2, hacc, hrec, hge⟩ := hx
  dsimp only at hn1 hn2 hacc hrec hge ⊢
  obtain ⟨i, rfl⟩ : ∃ i, n = at_ + i := ⟨n - at_, by omega⟩
  rw [show at_ + i - at_ = i by omega] at hacc hrec
  rw [show o.length + 1 - i = (o.length - i) + 1 by omega, recR_succ] at hrec
  (repeat' (first | (apply cut_at 6; refine WP_cutR 6 (fun b : Bool => ([(0, ex (.func (.yield l) #[] #[])), (1, fp [isl (eSl eByte) o]), (3, exI .i64 at_), (4, exI .u64 last), (5, ex v), (6, exI .i64 ((at_ + i : Nat) : Int)), (7, isl eByte (secAt o (at_ + i))), (52, exB b)], vec v 5 1 acc.length (acc.map ub) :: bl)) (fun b => b = or (badR o at_ i) (decide (numN ((secAt o (at_ + i)).take 4) < last))) ?_ fun b hb0 => ?_) | refine WP_seq ?_ | refine WP_region ?_ | refine WPL_nil ?_ | (apply WPL_t; (first | exact WT_move rfl | exact WT_assign rfl | (apply g_load; first | exact WT_loadf rfl rfl) | (apply g_bin; first | exact WT_lss rfl rfl) | (apply g_index; first | exact WT_index rfl rfl rfl) | (apply g_call; first | exact WT_len rfl rfl)); exact rfl) | refine WP_block ?_ | refine WP_skip ?_ | refine WP_ret ?_ | refine WP_exit ?_ | (refine WP_cond rfl (fun hb => ?_) (fun hb => ?_) <;> (repeat (first | replace hb := dec_t hb | replace hb := dec_f hb)) <;> (try (exfalso; first | fail)))))
  · have hlt : at_ + i < o.length := by omega
    have hsec : secAt o (at_ + i) = o[at_ + i] := by unfold secAt; rw [List.getElem?_eq_getElem hlt]; rfl
    have hs1 : o[at_ + i].length = 128 := hall _ (List.getElem_mem _)
    have hs2 : o[at_].length = 128 := hall _ (List.getElem_mem _)
    have hlt0 : at_ < o.length := by omega
    have hb1 := badR_eq o ho hall at_ i hlt
    have hg := getF_num (o[at_ + i].take 4) (by rw [List.length_take]; omega)
    have h00 : i = 0 → getF (o[at_ + i].take 4) = getF (o[at_].take 4) := by rintro rfl; rfl
    clear hrec hpairs hend hY
    (refine WP_drawl 34 rfl ?_)
    all_goals ((apply WPY_pure 0 rfl (by decide +kernel) rfl (by repeat (first | exact np_ret)) guard_none; (first | exact WT_move rfl); exact rfl))
    all_goals ((apply WPY_pure 1 rfl (by decide +kernel) rfl (by repeat (first | exact np_ret)) guard_none; (first | exact WT_move rfl); exact rfl))
    all_goals (first | (apply WPY_one 2; exact (by decide +kernel); exact rfl; exact guard_none; exact (fun _ _ h => h); first | (apply g_callf; first | (refine WO_call Try.func61 rfl (good_any _ _ (by assumption) (by omega)) rfl ?_; rintro _ _ ⟨rfl, rfl⟩))))
    all_goals ((apply WPY_pure 3 rfl (by decide +kernel) rfl (by repeat (first | exact np_ret)) guard_none; (first | (apply g_un; first | exact WT_not rfl)); exact rfl))
    all_goals ((apply WPY_pure 4 rfl (by decide +kernel) rfl (by repeat (first | exact np_ret)) guard_none; (first | exact WT_move rfl); exact rfl))
    all_goals (first | (refine WPY_case 23 rfl (fun hb => ?_) (fun hb => ?_) <;> (repeat (first | replace hb := dec_t hb | replace hb := dec_f hb | replace hb := not_t hb | replace hb := not_f hb)) <;> (try (exfalso; first | (cases hb; done) | omega))) | skip)
    all_goals (first | (refine WPY_off 5 rfl (by decide +kernel) rfl (by repeat (first | exact np_ret)) rfl rfl rfl rfl rfl ?_) | (apply WPY_pure 5 rfl (by decide +kernel) rfl (by repeat (first | exact np_ret)) (guard_some rfl rfl rfl); (first | exact WT_move rfl); exact rfl))
    all_goals (first | (refine WPY_off 6 rfl (by decide +kernel) rfl (by repeat (first | exact np_ret)) rfl rfl rfl rfl rfl ?_) | (apply WPY_pure 6 rfl (by decide +kernel) rfl (by repeat (first | exact np_ret)) (guard_some rfl rfl rfl); (first | (apply g_index; first | exact WT_index rfl rfl rfl)); exact rfl))
    all_goals (first | (refine WPY_off 7 rfl (by decide +kernel) rfl (by repeat (first | exact np_ret)) rfl rfl rfl rfl rfl ?_) | (apply WPY_take 7 rfl (by decide +kernel) rfl (by decide +kernel) (by repeat (first | exact np_ret)) (guard_some rfl rfl rfl); (first | (apply g_load; first | exact WT_loadf rfl rfl)); exact rfl))
    all_goals (first | (refine WPY_off 8 rfl (by decide +kernel) rfl (by repeat (first | exact np_ret)) rfl rfl rfl rfl rfl ?_) | (apply WPY_pure 8 rfl (by decide +kernel) rfl (by repeat (first | exact np_ret)) (guard_some rfl rfl rfl); (first | (apply g_bin; first | exact WT_and rfl rfl)); exact rfl))
    all_goals (first | (refine WPY_off 9 rfl (by decide +kernel) rfl (by repeat (first | exact np_ret)) rfl rfl rfl rfl rfl ?_) | (apply WPY_pure 9 rfl (by decide +kernel) rfl (by repeat (first | exact np_ret)) (guard_some rfl rfl rfl); (first | (apply g_bin; first | exact WT_neq rfl rfl)); exact rfl))
    all_goals (first | (refine WPY_off 10 rfl (by decide +kernel) rfl (by repeat (first | exact np_ret)) rfl rfl rfl rfl rfl ?_) | (apply WPY_pure 10 rfl (by decide +kernel) rfl (by repeat (first | exact np_ret)) (guard_some rfl rfl rfl); (first | exact WT_move rfl); exact rfl))
    all_goals (first | (refine WPY_off 11 rfl (by decide +kernel) rfl (by repeat (first | exact np_ret)) rfl rfl rfl rfl rfl ?_) | (apply WPY_pure 11 rfl (by decide +kernel) rfl (by repeat (first | exact np_ret)) (guard_some rfl rfl rfl); (first | exact WT_move rfl); exact rfl))
    all_goals (first | (refine WPY_off 12 rfl (by decide +kernel) rfl (by repeat (first | exact np_ret)) rfl rfl rfl rfl rfl ?_) | (apply WPY_pure 12 rfl (by decide +kernel) rfl (by repeat (first | exact np_ret)) (guard_some rfl rfl rfl); (first | (apply g_bin; first | exact WT_eql rfl rfl)); exact rfl))
    all_goals (first | (refine WPY_off 13 rfl (by decide +kernel) rfl (by repeat (first | exact np_ret)) rfl rfl rfl rfl rfl ?_) | (apply WPY_pure 13 rfl (by decide +kernel) rfl (by repeat (first | exact np_ret)) (guard_some rfl rfl rfl); (first | (apply g_bin; first | exact WT_bne rfl rfl rfl)); exact rfl))
    all_goals ((apply WPY_pure 14 rfl (by decide +kernel) rfl (by repeat (first | exact np_ret)) guard_none; (first | exact WT_pick (b := true) rfl (fun _ => rfl) (fun e => by cases e) | exact WT_pick (b := false) rfl (fun e => by cases e) (fun _ => rfl)); exact rfl))
    all_goals ((apply WPY_pure 15 rfl (by decide +kernel) rfl (by repeat (first | exact np_ret)) guard_none; (first | exact WT_move rfl); exact rfl))
    all_goals (first | (refine WPY_case 34 rfl (fun hb => ?_) (fun hb => ?_) <;> (repeat (first | replace hb := dec_t hb | replace hb := dec_f hb | replace hb := not_t hb | replace hb := not_f hb)) <;> (try (exfalso; first | (cases hb; done) | omega))) | skip)
    all_goals (first | (refine WPY_off 16 rfl (by decide +kernel) rfl (by repeat (first | exact np_ret)) rfl rfl rfl rfl rfl ?_) | (apply WPY_pure 16 rfl (by decide +kernel) rfl (by repeat (first | exact np_ret)) (guard_some rfl rfl rfl); (first | exact WT_move rfl); exact rfl))
    all_goals (first | (refine WPY_off 17 rfl (by decide +kernel) rfl (by repeat (first | exact np_ret)) rfl rfl rfl rfl rfl ?_) | (apply WPY_pure 17 rfl (by decide +kernel) rfl (by repeat (first | exact np_ret)) (guard_some rfl rfl rfl); (first | (apply g_slice; first | exact WT_slch rfl rfl rfl)); exact rfl))
    all_goals (first | (refine WPY_off 19 rfl (by decide +kernel) rfl (by repeat (first | exact np_ret)) rfl rfl rfl rfl rfl ?_) | (apply WPY_take 19 rfl (by decide +kernel) rfl (by decide +kernel) (by repeat (first | exact np_ret)) (guard_some rfl rfl rfl); (first | (apply g_load; first | exact WT_loadf rfl rfl)); exact rfl))
    all_goals (first | (refine WPY_off 20 rfl (by decide +kernel) rfl (by repeat (first | exact np_ret)) rfl rfl rfl rfl rfl ?_) | (apply WPY_pure 20 rfl (by decide +kernel) rfl (by repeat (first | exact np_ret)) (guard_some rfl rfl rfl); (first | exact WT_move rfl); exact rfl))
    all_goals (first | (refine WPY_off 21 rfl (by decide +kernel) rfl (by repeat (first | exact np_ret)) rfl rfl rfl rfl rfl ?_) | (apply WPY_pure 21 rfl (by decide +kernel) rfl (by repeat (first | exact np_ret)) (guard_some rfl rfl rfl); (first | (apply g_index; first | exact WT_index rfl rfl rfl)); exact rfl))
    all_goals (first | (refine WPY_off 22 rfl (by decide +kernel) rfl (by repeat (first | exact np_ret)) rfl rfl rfl rfl rfl ?_) | (apply WPY_take 22 rfl (by decide +kernel) rfl (by decide +kernel) (by repeat (first | exact np_ret)) (guard_some rfl rfl rfl); (first | (apply g_load; first | exact WT_loadf rfl rfl)); exact rfl))
    all_goals (first | (refine WPY_off 23 rfl (by decide +kernel) rfl (by repeat (first | exact np_ret)) rfl rfl rfl rfl rfl ?_) | (apply WPY_pure 23 rfl (by decide +kernel) rfl (by repeat (first | exact np_ret)) (guard_some rfl rfl rfl); (first | (apply g_slice; first | exact WT_slch rfl rfl rfl)); exact rfl))
    all_goals (first | (refine WPY_off 18 rfl (by decide +kernel) rfl (by repeat (first | exact np_ret)) rfl rfl rfl rfl rfl ?_) | (apply WPY_one 18; exact (by decide +kernel); exact rfl; exact (guard_some rfl rfl rfl); exact (fun _ _ h => h); first | (apply g_callf; first | (refine WO_call Try.func41 rfl (get_any _ (by simp only [List.length_take]; omega)) rfl ?_; rintro _ _ ⟨rfl, rfl⟩))))
    all_goals (first | (refine WPY_off 24 rfl (by decide +kernel) rfl (by repeat (first | exact np_ret)) rfl rfl rfl rfl rfl ?_) | (apply WPY_one 24; exact (by decide +kernel); exact rfl; exact (guard_some rfl rfl rfl); exact (fun _ _ h => h); first | (apply g_callf; first | (refine WO_call Try.func41 rfl (get_any _ (by simp only [List.length_take]; omega)) rfl ?_; rintro _ _ ⟨rfl, rfl⟩))))
    all_goals (first | (refine WPY_off 25 rfl (by decide +kernel) rfl (by repeat (first | exact np_ret)) rfl rfl rfl rfl rfl ?_) | (apply WPY_pure 25 rfl (by decide +kernel) rfl (by repeat (first | exact np_ret)) (guard_some rfl rfl rfl); (first | (apply g_bin; first | exact WT_neq rfl rfl)); exact rfl))
    all_goals ((apply WPY_pure 26 rfl (by decide +kernel) rfl (by repeat (first | exact np_ret)) guard_none; (first | exact WT_pick (b := true) rfl (fun _ => rfl) (fun e => by cases e) | exact WT_pick (b := false) rfl (fun e => by cases e) (fun _ => rfl)); exact rfl))
    all_goals ((apply WPY_pure 27 rfl (by decide +kernel) rfl (by repeat (first | exact np_ret)) guard_none; (first | exact WT_move rfl); exact rfl))
    all_goals (first | (refine WPY_case 46 rfl (fun hb => ?_) (fun hb => ?_) <;> (repeat (first | replace hb := dec_t hb | replace hb := dec_f hb | replace hb := not_t hb | replace hb := not_f hb)) <;> (try (exfalso; first | (cases hb; done) | omega))) | skip)
    all_goals (first | (refine WPY_off 28 rfl (by decide +kernel) rfl (by repeat (first | exact np_ret)) rfl rfl rfl rfl rfl ?_) | (apply WPY_pure 28 rfl (by decide +kernel) rfl (by repeat (first | exact np_ret)) (guard_some rfl rfl rfl); (first | exact WT_move rfl); exact rfl))
    all_goals (first | (refine WPY_off 29 rfl (by decide +kernel) rfl (by repeat (first | exact np_ret)) rfl rfl rfl rfl rfl ?_) | (apply WPY_pure 29 rfl (by decide +kernel) rfl (by repeat (first | exact np_ret)) (guard_some rfl rfl rfl); (first | (apply g_slice; first | exact WT_slch rfl rfl rfl)); exact rfl))
    all_goals (first | (refine WPY_off 31 rfl (by decide +kernel) rfl (by repeat (first | exact np_ret)) rfl rfl rfl rfl rfl ?_) | (apply WPY_pure 31 rfl (by decide +kernel) rfl (by repeat (first | exact np_ret)) (guard_some rfl rfl rfl); (first | exact WT_move rfl); exact rfl))
    all_goals (first | (refine WPY_off 30 rfl (by decide +kernel) rfl (by repeat (first | exact np_ret)) rfl rfl rfl rfl rfl ?_) | (apply WPY_one 30; exact (by decide +kernel); exact rfl; exact (guard_some rfl rfl rfl); exact (fun _ _ h => h); first | (apply g_callf; first | (refine WO_call Try.func41 rfl (get_any _ (by simp only [List.length_take]; omega)) rfl ?_; rintro _ _ ⟨rfl, rfl⟩))))
    all_goals (first | (refine WPY_off 32 rfl (by decide +kernel) rfl (by repeat (first | exact np_ret)) rfl rfl rfl rfl rfl ?_) | (apply WPY_pure 32 rfl (by decide +kernel) rfl (by repeat (first | exact np_ret)) (guard_some rfl rfl rfl); (first | (apply g_bin; first | exact WT_lss rfl rfl)); exact rfl))
    all_goals ((apply WPY_pure 33 rfl (by decide +kernel) rfl (by repeat (first | exact np_ret)) guard_none; (first | exact WT_pick (b := true) rfl (fun _ => rfl) (fun e => by cases e) | exact WT_pick (b := false) rfl (fun e => by cases e) (fun _ => rfl)); exact rfl))
    all_goals (refine WPY_done (by decide +kernel) ?_)
    all_goals (refine cut_here _ ?_ (Leads_env (by rw [hsec]; repeat (first | exact sub_nil | refine sub_cons rfl ?_)) (List.Sublist.refl _)))
    all_goals (rw [hsec, hb1, ← hg]; clear hb1 hg; generalize getF (o[at_ + i].take 4) = a1 at *; generalize getF (o[at_].take 4) = a2 at *; generalize goodF o[at_ + i] (at_ + i) = g at *; have h1 := and1_mod (o[at_ + i][10]).toNat; generalize o[at_ + i][10].toNat = k at *; rw [Bool.eq_iff_iff]; simp_all; try omega)
    all_goals (rw [dk, di] at hb; by_cases hi : i = 0 <;> by_cases hk : k % 2 = 1 <;> simp_all <;> omega)
  · refine ⟨.inr rfl, ret0 rfl (List.sublist_cons_self _ _) (hend ?_)⟩
    have hlt : at_ + i < o.length := by omega
    by_cases hbd : badR o at_ i = true
    · left; rw [hrec, if_pos hlt, if_pos hbd]
    · right
      have hbd' : badR o at_ i = false := by simpa using hbd
      have hl2 : numN ((secAt o (at_ + i)).take 4) < last := by
        rw [hb, hbd'] at hb0
        simpa using hb0
      rcases Nat.eq_zero_or_pos i with rfl | hi
      · exact hl2
      · rw [← badR_gen hbd' hi]; exact hl2
  · have hlt : at_ + i < o.length := by omega
    rw [hb] at hb0
    have hb2 := (Bool.or_eq_false_iff.1 hb0.symm)
    have hbd := hb2.1
    have hl2 : last ≤ numN ((secAt o (at_ + i)).take 4) := by
      have := of_decide_eq_false hb2.2
      omega
    have hsec : secAt o (at_ + i) = o[at_ + i] := by unfold secAt; rw [List.getElem?_eq_getElem hlt]; rfl
    have hs1 : (secAt o (at_ + i)).length = 128 := by rw [hsec]; exact hall _ (List.getElem_mem _)
    have hgood := badR_good hbd
    have hk3 := goodR_kind hgood
    have hk10 := kindS_eq hs1
    have he112 : ((secAt o (at_ + i))[11]).toNat ≤ 112 := by
      have := goodR_len hgood
      rwa [List.getElem?_eq_getElem (by omega)] at this
    have hgn := getF_num ((secAt o (at_ + i)).take 4) (by rw [List.length_take]; omega)
    have hgeq : numN ((secAt o (at_ + i)).take 4) = numN ((secAt o at_).take 4) := by
      rcases Nat.eq_zero_or_pos i with rfl | hi
      · rfl
      · exact badR_gen hbd hi
    have hpl : (((secAt o (at_ + i)).take (12 + (secAt o (at_ + i))[11].toNat)).drop 12).length = (secAt o (at_ + i))[11].toNat := by rw [List.length_drop, List.length_take]; omega
    have hpay := payS_eq hs1
    have hk2 := and2_ge (hk10 ▸ hk3)
    rw [if_pos hlt, hbd, hk10] at hrec
    simp only [Bool.false_eq_true, if_false] at hrec
    (repeat' (first | (apply at_region 10; refine WP_regionI (n := 5) ?_) | refine WP_seq ?_ | refine WP_region ?_ | refine WPL_nil ?_ | (apply WPL_t; (first | exact WT_move rfl | exact WT_assign rfl | (apply g_load; first | exact WT_loadf rfl rfl) | (apply g_bin; first | exact WT_neq rfl rfl | exact WT_add rfl rfl | exact WT_and rfl rfl) | (apply g_index; first | exact WT_index rfl rfl rfl) | (apply g_slice; first | exact WT_slc rfl rfl rfl rfl | exact WT_slch rfl rfl rfl) | (apply g_conv; first | exact WT_convb rfl rfl rfl)); exact rfl) | refine WP_skip ?_ | (apply WPL_op0; exact rfl; first | (apply g_callf; first | (refine WO_call Try.func41 rfl (get_any _ (by simp only [List.length_take]; omega)) rfl ?_; rintro _ _ ⟨rfl, rfl⟩)) | (apply g_append; (first | (refine WO_append (k := 0) (l0 := []) rfl rfl (by first | exact Src_isl rfl) rfl ?_)); intro _)) | (refine WP_cond rfl (fun hb => ?_) (fun hb => ?_) <;> (repeat (first | replace hb := dec_t hb | replace hb := dec_f hb | replace hb := not_t hb | replace hb := not_f hb)) <;> (try (exfalso; first | fail)))))
    all_goals (rw [show acc.map ub ++ (((secAt o (at_ + i)).take (12 + (secAt o (at_ + i))[11].toNat)).drop 12).flatMap byV = (acc ++ payS (secAt o (at_ + i))).map ub by rw [flat_byV, ← List.map_append, hpay], show acc.length + (((secAt o (at_ + i)).take (12 + (secAt o (at_ + i))[11].toNat)).drop 12).length = (acc ++ payS (secAt o (at_ + i))).length by rw [List.length_append, hpay]])
    all_goals (have hal : (acc ++ payS (secAt o (at_ + i))).length ≤ 112 * (i + 1) := by rw [List.length_append, hpay, hpl]; omega)
    · rw [if_pos (by omega)] at hrec
      have hp2 : pairsF o = pre ++ (at_ + i + 1, acc ++ payS (secAt o (at_ + i))) :: pairsR o f (at_ + i + 1) (numN ((secAt o at_).take 4)) := by
        rw [hpairs, hrec, if_neg (by show ¬ (i + 1 = 0 ∨ _); omega)]
        rfl
      refine WPI_leads (Leads_fvec (k := 0) (t := 5) (E := eByte) (acc ++ payS (secAt o (at_ + i))) rfl rfl (flat_byV _).symm rfl) ?_
      refine WPI_t (.inl rfl) (fun c h => by cases h) (WT_move rfl) rfl ?_
      refine WPI_t (.inl rfl) (fun c h => by cases h) (WT_move rfl) rfl ?_
      refine WPI_t (.inl rfl) (fun c h => by cases h) (WT_move rfl) rfl ?_
      refine WPI_yield rfl (hY pre (at_ + i + 1, acc ++ payS (secAt o (at_ + i))) ⟨pairsR o f (at_ + i + 1) (numN ((secAt o at_).take 4)), by rw [hp2]; simp⟩) rfl hSt ?_
      intro bl' hSt'
      refine WPI_t (.inl rfl) (fun c h => by cases h) (WT_not rfl) rfl ?_
      refine WPI_nil ?_
      (repeat' (first | refine WP_skip ?_ | refine WP_exit ?_ | refine WP_cond_f rfl ?_))
      refine ⟨(at_ + i + 1, numN ((secAt o at_).take 4), pre ++ [(at_ + i + 1, acc ++ payS (secAt o (at_ + i)))], bl'), ⟨by dsimp only; omega, ?_, hSt', f, by dsimp only; omega, ?_⟩, by dsimp only; omega, ?_⟩
      · exact numN_lt64 _ (by rw [List.length_take]; omega)
      · rw [hp2]; simp
      · rw [← hgeq, ← hgn]
        exact Leads_env (by repeat (first | exact sub_nil | refine sub_cons rfl ?_)) (List.Sublist.refl _)
    · rename_i v'
      rw [if_neg (by omega), show o.length - i = o.length + 1 - (i + 1) by omega] at hrec
      refine ⟨(at_ + i + 1, v', acc ++ payS (secAt o (at_ + i))), ⟨by dsimp only; omega, by dsimp only; omega, ?_, ?_, fun _ => by rw [← hgeq]; exact hl2⟩, by dsimp only; omega, Leads_env (by repeat (first | exact sub_nil | refine sub_cons rfl ?_)) (List.Sublist.refl _)⟩
      · dsimp only; rw [show at_ + i + 1 - at_ = i + 1 by omega]; exact hal
      · dsimp only; rw [show at_ + i + 1 - at_ = i + 1 by omega]; exact hrec
  · refine ⟨.inr rfl, ret0 rfl (List.sublist_cons_self _ _) (hend (.inl ?_))⟩
    rw [hrec, if_neg (by omega)]

end Go.Proofs.Ytmghnjahjeinnaa

/- Open, and the reference's Open. -/
namespace Go.Proofs.Ytmghnjahjeinnaa
open Go Go.RowKit Go.Kx Go.Fr

set_option maxRecDepth 100000 in
theorem recs_any (o : List (List UInt8)) : FnC Try.prog 32 [isl (eSl eByte) o] [] (fun p loc => p = clo 60 [fp [isl (eSl eByte) o]] ∧ loc = []) := by
  refine FnC_enter Try.func32 rfl Try.ntmps32 rfl fun w0 F0 out => ?_
  (repeat' (first | refine WP_seq ?_ | refine WP_region ?_ | refine WPL_nil ?_ | (apply WPL_t; (first | exact WT_assign rfl); exact rfl) | (apply WPL_op0; exact rfl; first | (apply g_box; refine WO_box rfl ?_; intro _))))
  apply WPL_t
  · exact WT_mkfunc (vs := [.pointer (some ⟨_, 0, none⟩)]) rfl
  · exact rfl
  (repeat' (first | refine WPL_nil ?_ | (apply WPL_t; (first | exact WT_assign rfl); exact rfl) | refine WP_ret ?_))
  apply retP_leads
  · exact Leads_clo (l1 := []) (l2 := []) (t := 2) rfl
  · exact ⟨.inr rfl, ret1 rfl (.tmp rfl) (List.nil_sublist _) ⟨rfl, rfl⟩⟩

theorem pairsR_len (o : List (List UInt8)) (f i gen : Nat) : (pairsR o f i gen).length ≤ f := by
  induction f generalizing i gen with
  | zero => simp [pairsR]
  | succ f ih => rw [pairsR_succ]; split <;> simp; exact ih _ _

/-- Open: the journal and the error. -/
def openF (D : Disk) : (List (List UInt8) × Int × Int) × Int :=
  if Disk.ok D then (if D.stopped then (([], 0, 0), 40) else if D.pend.length = 0 then ((recordsR D.secs, D.secs.length, (recordsR D.secs).length), 0) else (([], 0, 0), 1)) else (([], 0, 0), 40)

theorem ok_secs {D : Disk} (h : Disk.ok D = true) : D.secs.length < 2 ^ 16 ∧ (∀ s ∈ D.secs, s.length = 128) := by
  have h1 := Disk.ok_out h
  exact ⟨by omega, secs_ok h⟩

set_option maxHeartbeats 1000000 in
set_option maxRecDepth 100000 in
theorem ropen_any (D : Disk) : FnC Try.prog 13 [dsk D] [] (fun p loc => p = tup [jr (openF D).1.1 (openF D).1.2.1 (openF D).1.2.2, exI .i64 (openF D).2] ∧ loc = []) := by
  refine FnC_enter Try.func13 rfl Try.ntmps13 rfl fun w0 F0 out => ?_
  rcases checkF_cases D with ⟨hok, hc⟩ | ⟨hok, hc⟩
  · obtain ⟨hs1, hs2⟩ := ok_secs hok
    (repeat' (first | refine WP_seq ?_ | refine WP_region ?_ | refine WPL_nil ?_ | (apply WPL_t; (first | exact WT_move rfl | exact WT_assign rfl | (apply g_load; first | exact WT_load (k := 1) rfl rfl rfl rfl | exact WT_loada2 (k := 1) rfl rfl rfl) | (apply g_fld; first | exact WT_field rfl rfl rfl) | (apply g_bin; first | exact WT_neq rfl rfl | exact WT_gtr rfl rfl) | (apply g_call; first | exact WT_len rfl rfl) | (apply g_build; first | exact WT_build2 rfl rfl (by repeat (first | exact PartsO.nil | (apply PartsO.cons; exact rfl; exact inferInstance; exact rfl; exact rfl))))); exact rfl) | refine WP_skip ?_ | refine WP_ret ?_ | (apply WPL_op0; exact rfl; first | (apply g_callf; first | (refine WO_call Try.func33 rfl (rchk_fr _) rfl ?_; rintro _ _ ⟨rfl, rfl⟩) | (refine WO_call Try.func34 rfl (records_any _ (by assumption) (by assumption)) rfl ?_; rintro _ _ ⟨rfl, rfl⟩)) | (apply g_box; refine WO_box rfl ?_; intro _) | (apply g_alloc; refine WO_alloc ?_; intro _) | (apply g_store; first | refine WO_store (k := 0) (l0 := []) rfl rfl rfl ?_)) | (refine WP_cond rfl (fun hb => ?_) (fun hb => ?_) <;> (repeat (first | replace hb := dec_t hb | replace hb := dec_f hb | replace hb := not_t hb | replace hb := not_f hb)) <;> (try (exfalso; first | omega)))))
    · (refine ⟨.inr rfl, retw (loc' := []) (by first | exact ret2 rfl (.cella (k := 0) rfl rfl rfl rfl inferInstance rfl) (.tmp rfl) (List.nil_sublist _) ⟨rfl, rfl⟩) ?_ ⟨rfl, rfl⟩⟩)
      unfold openF; rw [if_pos hok, if_pos (by assumption)]
      exact Ims.tup (.cons im_jr0 (.cons (.refl _) .nil))
    · (refine ⟨.inr rfl, retw (loc' := []) (by first | exact ret2 rfl (.cella (k := 0) rfl rfl rfl rfl inferInstance rfl) (.tmp rfl) (List.nil_sublist _) ⟨rfl, rfl⟩) ?_ ⟨rfl, rfl⟩⟩)
      unfold openF; rw [if_pos hok, if_neg (by simp [*]), if_neg (by omega)]
      exact Ims.tup (.cons im_jr0 (.cons (.refl _) .nil))
    · (refine ⟨.inr rfl, retw (loc' := []) (by first | exact ret2 rfl (.cella (k := 0) rfl rfl rfl rfl inferInstance rfl) (.tmp rfl) (List.nil_sublist _) ⟨rfl, rfl⟩) ?_ ⟨rfl, rfl⟩⟩)
      unfold openF; rw [if_pos hok, if_neg (by simp [*]), if_pos (by omega)]
      exact .refl _
  · (repeat' (first | refine WP_seq ?_ | refine WP_region ?_ | refine WPL_nil ?_ | (apply WPL_t; (first | exact WT_move rfl | exact WT_assign rfl | (apply g_load; first | exact WT_loada2 (k := 1) rfl rfl rfl) | (apply g_bin; first | exact WT_neq rfl rfl) | (apply g_build; first | exact WT_build2 rfl rfl (by repeat (first | exact PartsO.nil)))); exact rfl) | refine WP_ret ?_ | (apply WPL_op0; exact rfl; first | (apply g_callf; first | (refine WO_call Try.func33 rfl (rchk_fr _) rfl ?_; rintro _ _ ⟨rfl, rfl⟩)) | (apply g_box; refine WO_box rfl ?_; intro _) | (apply g_alloc; refine WO_alloc ?_; intro _) | (apply g_store; first | refine WO_store (k := 0) (l0 := []) rfl rfl rfl ?_)) | (refine WP_cond rfl (fun hb => ?_) (fun hb => ?_) <;> (repeat (first | replace hb := dec_t hb | replace hb := dec_f hb | replace hb := not_t hb | replace hb := not_f hb)) <;> (try (exfalso; first | omega)))))
    (refine ⟨.inr rfl, retw (loc' := []) (by first | exact ret2 rfl (.cella (k := 0) rfl rfl rfl rfl inferInstance rfl) (.tmp rfl) (List.nil_sublist _) ⟨rfl, rfl⟩) ?_ ⟨rfl, rfl⟩⟩)
    unfold openF; rw [if_neg (by simp [hok]), hc]
    exact Ims.tup (.cons im_jr0 (.cons (.refl _) .nil))

set_option maxHeartbeats 1000000 in
set_option maxRecDepth 100000 in
theorem open_any (D : Disk) : FnC Try.prog 12 [dsk D] [] (fun p loc => p = tup [jr (openF D).1.1 (openF D).1.2.1 (openF D).1.2.2, exI .i64 (openF D).2] ∧ loc = []) := by
  refine FnC_enterM Try.func12 rfl Try.ntmps12 rfl fun w0 F0 out => ?_
  rcases checkF_cases D with ⟨hok, hc⟩ | ⟨hok, hc⟩
  · obtain ⟨hs1, hs2⟩ := ok_secs hok
    (repeat' (first | (apply at_range; refine Stop.out ?_) | refine WPR_deep ?_ | refine WPR_seq ?_ | refine WP_seq ?_ | refine WP_region ?_ | refine WPL_nil ?_ | (apply WPL_t; (first | exact WT_move rfl | exact WT_assign rfl | (apply g_load; first | exact WT_load (k := 1) rfl rfl rfl rfl | exact WT_loada2 (k := 1) rfl rfl rfl) | (apply g_fld; first | exact WT_field rfl rfl rfl) | (apply g_bin; first | exact WT_neq rfl rfl | exact WT_gtr rfl rfl) | (apply g_call; first | exact WT_len rfl rfl) | (apply g_build; first | exact WT_build2 rfl rfl (by repeat (first | exact PartsO.nil)))); exact rfl) | refine WP_skip ?_ | refine WP_ret ?_ | (apply WPL_op0; exact rfl; first | (apply g_callf; first | (refine WO_call Try.func31 rfl (chk_fr _) rfl ?_; rintro _ _ ⟨rfl, rfl⟩) | (refine WO_call Try.func32 rfl (recs_any _) rfl ?_; rintro _ _ ⟨rfl, rfl⟩)) | (apply g_box; refine WO_box rfl ?_; intro _) | (apply g_alloc; refine WO_alloc ?_; intro _) | (apply g_store; first | refine WO_store (k := 0) (l0 := []) rfl rfl rfl ?_)) | (refine WP_cond rfl (fun hb => ?_) (fun hb => ?_) <;> (repeat (first | replace hb := dec_t hb | replace hb := dec_f hb | replace hb := not_t hb | replace hb := not_f hb)) <;> (try (exfalso; first | omega)))))
    · refine raw_ret rfl ?_
      (refine ⟨.inr rfl, retw (loc' := []) (by first | exact ret2 rfl (.cella (k := 0) rfl rfl rfl rfl inferInstance rfl) (.tmp rfl) (List.nil_sublist _) ⟨rfl, rfl⟩) ?_ ⟨rfl, rfl⟩⟩)
      unfold openF; rw [if_pos hok, if_pos (by assumption)]
      exact Ims.tup (.cons im_jr0 (.cons (.refl _) .nil))
    · refine raw_ret rfl ?_
      (refine ⟨.inr rfl, retw (loc' := []) (by first | exact ret2 rfl (.cella (k := 0) rfl rfl rfl rfl inferInstance rfl) (.tmp rfl) (List.nil_sublist _) ⟨rfl, rfl⟩) ?_ ⟨rfl, rfl⟩⟩)
      unfold openF; rw [if_pos hok, if_neg (by simp [*]), if_neg (by omega)]
      exact Ims.tup (.cons im_jr0 (.cons (.refl _) .nil))
    · refine ⟨?_⟩
      rename_i b1 b2 _ _
      refine WPR_leads (LeadsS_vec_nil (T := 35) (sz := 1)).leads ?_
      refine WPR_range (bl := [vec (.slice none 0 0) 35 1 0 [], row b2 29 3 [ex (.slice none 0 0), exI .i64 D.secs.length, exI .i64 0]]) (pairsF D.secs) (fun pre loc => ∃ v, loc = [vec v 35 1 pre.length (pre.map fun x => isl eByte x.2), row b2 29 3 [ex v, exI .i64 D.secs.length, exI .i64 0]]) (fun x e => (6, isl eByte x.2) :: e) rfl Try.func60 rfl rfl (recs1_gen _ hs1 hs2) (fun _ => rfl) (fun t ht => by simp at ht; rcases ht with rfl | rfl <;> rfl) ⟨_, rfl⟩ ?_ ?_ ?_
      · intro Cb l m pre x inn hP hN hpre hS
        obtain ⟨P1, w1, F1, X1, out1, N1, d1⟩ := Cb
        dsimp only at hP hN
        subst hP hN
        exact WPC_region (WPI_t (.inr ⟨_, rfl⟩) (fun c h => by cases h) (WT_assign rfl) rfl (WPI_nil ⟨rfl, rfl, rfl⟩))
      · intro Cb l m pre x inn hP hN hpre hS
        obtain ⟨P1, w1, F1, X1, out1, N1, d1⟩ := Cb
        dsimp only at hP hN
        subst hP hN
        obtain ⟨v, rfl⟩ := hS
        have hlen : pre.length < 2 ^ 17 := by
          have h1 := hpre.length_le
          have h2 := pairsR_len D.secs (D.secs.length + 1) 0 0
          unfold pairsF at h1
          rw [List.length_append, List.length_singleton] at h1
          omega
        refine WPC_block (WPC_region ?_)
        refine WPI_t (.inr ⟨_, rfl⟩) (fun c h => by cases h) (WT_field rfl rfl rfl) rfl ?_
        refine WPI_t (.inr ⟨_, rfl⟩) (fun c h => by cases h) (WT_load (k := 1) rfl rfl rfl rfl) rfl ?_
        refine WPI_t (.inr ⟨_, rfl⟩) (fun c h => by cases h) (WT_move rfl) rfl ?_
        refine WPI_op (H := feet []) (.inr ⟨_, rfl⟩) (fun c h => by cases h) rfl (WO_bslice1 rfl rfl ?_)
        intro b3
        refine WPI_op (H := feet []) (.inr ⟨_, rfl⟩) (fun c h => by cases h) rfl (WO_append (k := 1) (l0 := []) rfl rfl (Src_rowW (k := 0) rfl rfl) rfl ?_)
        intro v'
        refine WPI_vv (k := 1) rfl (by omega) fun b4 c4 hv' => ?_
        subst hv'
        refine WPI_t (.inr ⟨_, rfl⟩) (fun c h => by cases h) (WT_field rfl rfl rfl) rfl ?_
        refine WPI_op (H := feet []) (.inr ⟨_, rfl⟩) (fun c h => by cases h) rfl (WO_store (k := 2) (l0 := []) rfl rfl rfl ?_)
        refine WPI_leads (Leads_drop (List.sublist_cons_self _ _)) ?_
        refine WPI_nil ⟨rfl, rfl, .slice (some ⟨b4, 0, none⟩) (pre.length + 1) c4, ?_⟩
        simp [putC]
      · intro D0 bl' hD hS
        obtain ⟨v, rfl⟩ := hS
        refine raw_next rfl ?_
        have hlen : (pairsF D.secs).length < 2 ^ 17 := by
          have h2 := pairsR_len D.secs (D.secs.length + 1) 0 0
          unfold pairsF
          omega
        have hn : (recordsR D.secs).length = (pairsF D.secs).length := by rw [recordsR_pairs, List.length_map]
        refine WPR_leads (Leads_fcell (j := 0) (k := 0) (i := 0) (E := eSl eByte) (recordsR D.secs) rfl rfl (by rw [flat_slV, recordsR_pairs, List.map_map]; rfl) hn rfl rfl) ?_
        (repeat' (first | refine WPR_seq ?_ | refine WPR_ret ?_ | refine WP_region ?_ | refine WPL_nil ?_ | (apply WPL_t; (first | exact WT_assign rfl | (apply g_load; first | exact WT_load (k := 0) rfl rfl rfl rfl | exact WT_loada2 (k := 0) rfl rfl rfl) | (apply g_fld; first | exact WT_field rfl rfl rfl) | (apply g_call; first | exact WT_len rfl rfl)); exact rfl) | (apply WPL_op0; exact rfl; first | (apply g_store; first | refine WO_store (k := 0) (l0 := []) rfl rfl rfl ?_))))
        refine raw_ret1 rfl hD ?_
        (refine ⟨.inr rfl, retw (loc' := []) (by first | exact ret2 rfl (.cella (k := 0) rfl rfl rfl rfl inferInstance rfl) (.tmp rfl) (List.nil_sublist _) ⟨rfl, rfl⟩) ?_ ⟨rfl, rfl⟩⟩)
        unfold openF; rw [if_pos hok, if_neg (by simp [*]), if_pos (by omega)]
        exact .refl _
  · (repeat' (first | refine WPR_seq ?_ | refine WP_seq ?_ | refine WP_region ?_ | refine WPL_nil ?_ | (apply WPL_t; (first | exact WT_move rfl | exact WT_assign rfl | (apply g_load; first | exact WT_loada2 (k := 1) rfl rfl rfl) | (apply g_bin; first | exact WT_neq rfl rfl) | (apply g_build; first | exact WT_build2 rfl rfl (by repeat (first | exact PartsO.nil)))); exact rfl) | refine WP_ret ?_ | (apply WPL_op0; exact rfl; first | (apply g_callf; first | (refine WO_call Try.func31 rfl (chk_fr _) rfl ?_; rintro _ _ ⟨rfl, rfl⟩)) | (apply g_box; refine WO_box rfl ?_; intro _) | (apply g_alloc; refine WO_alloc ?_; intro _) | (apply g_store; first | refine WO_store (k := 0) (l0 := []) rfl rfl rfl ?_)) | (refine WP_cond rfl (fun hb => ?_) (fun hb => ?_) <;> (repeat (first | replace hb := dec_t hb | replace hb := dec_f hb | replace hb := not_t hb | replace hb := not_f hb)) <;> (try (exfalso; first | omega)))))
    refine raw_ret rfl ?_
    (refine ⟨.inr rfl, retw (loc' := []) (by first | exact ret2 rfl (.cella (k := 0) rfl rfl rfl rfl inferInstance rfl) (.tmp rfl) (List.nil_sublist _) ⟨rfl, rfl⟩) ?_ ⟨rfl, rfl⟩⟩)
    unfold openF; rw [if_neg (by simp [hok]), hc]
    exact Ims.tup (.cons im_jr0 (.cons (.refl _) .nil))

end Go.Proofs.Ytmghnjahjeinnaa

/- slices.EqualFunc of records. -/
namespace Go.Proofs.Ytmghnjahjeinnaa
open Go Go.RowKit Go.Kx Go.Fr

set_option maxRecDepth 100000 in
theorem equalF_any (a b : List (List UInt8)) (ha : a.length < 2 ^ 62) : FnC Try.prog 42 [isl (eSl eByte) a, isl (eSl eByte) b, ex (.func (.func 43) #[] #[])] [] (fun p loc => p = exB (decide (a = b)) ∧ loc = []) := by
  refine FnC_enter Try.func42 rfl Try.ntmps42 rfl fun w0 F0 out => ?_
  by_cases hl : a.length = b.length
  · (repeat' (first | refine WP_seq ?_ | refine WP_region ?_ | refine WPL_nil ?_ | (apply WPL_t; (first | exact WT_move rfl | exact WT_assign rfl | (apply g_bin; first | exact WT_neq rfl rfl) | (apply g_call; first | exact WT_len rfl rfl)); exact rfl) | refine WP_block ?_ | refine WP_skip ?_ | (refine WP_cond rfl (fun hb => ?_) (fun hb => ?_) <;> (repeat (first | replace hb := dec_t hb | replace hb := dec_f hb | replace hb := not_t hb | replace hb := not_f hb)) <;> (try (exfalso; first | omega)))))
    refine WP_loop (fun k : Nat => ([(1, isl (eSl eByte) b), (2, ex (.func (.func 43) #[] #[])), (15, isl (eSl eByte) a), (16, exI .i64 a.length), (17, exI .i64 k)], [])) (fun k => k ≤ a.length ∧ ∀ i, i < k → a[i]? = b[i]?) (fun k => a.length - k) 0 ?_ ⟨by omega, fun i h => absurd h (by omega)⟩ fun k hk => ?_
    · exact Leads_env (by repeat (first | exact sub_nil | refine sub_cons rfl ?_)) (List.Sublist.refl _)
    obtain ⟨hk, hpre⟩ := hk
    (repeat' (first | refine WP_seq ?_ | refine WP_region ?_ | refine WPL_nil ?_ | (apply WPL_t; (first | exact WT_move rfl | exact WT_assign rfl | (apply g_load; first | exact WT_loadf rfl rfl) | (apply g_bin; first | exact WT_lss rfl rfl | exact WT_add rfl rfl) | (apply g_index; first | exact WT_index rfl rfl rfl) | (apply g_un; first | exact WT_not rfl)); exact rfl) | refine WP_block ?_ | refine WP_skip ?_ | refine WP_ret ?_ | refine WP_exit ?_ | (apply WPL_op0; exact rfl; first | (apply g_callf; first | (refine WO_callv (vs := []) (args := [_, _]) rfl Try.func43 rfl (equal_any _ _) rfl ?_; rintro _ _ ⟨rfl, rfl⟩))) | (refine WP_cond rfl (fun hb => ?_) (fun hb => ?_) <;> (repeat (first | replace hb := dec_t hb | replace hb := dec_f hb | replace hb := not_t hb | replace hb := not_f hb)) <;> (try (exfalso; first | fail)))))
    · refine ⟨.inr rfl, ret1 rfl (.tmp rfl) (List.nil_sublist _) ⟨congrArg exB ?_, rfl⟩⟩
      symm
      rw [decide_eq_false_iff_not]
      intro he
      have he2 : a[k]'(by omega) = b[k]'(by omega) := by simp only [he]
      rw [he2] at hb
      simp at hb
    · refine ⟨k + 1, ⟨by omega, fun i hi => ?_⟩, by omega, Leads_env (sub_cons rfl (sub_cons rfl (sub_cons rfl (sub_cons rfl (sub_cons rfl sub_nil))))) (List.Sublist.refl _)⟩
      rcases Nat.lt_or_ge i k with h | h
      · exact hpre i h
      · have : i = k := by omega
        subst this
        rw [List.getElem?_eq_getElem (by omega), List.getElem?_eq_getElem (by omega)]
        rw [eq_of_beq hb]
    · refine ⟨.inr rfl, ret1 rfl (.tmp rfl) (List.nil_sublist _) ⟨congrArg exB ?_, rfl⟩⟩
      symm
      rw [decide_eq_true_iff]
      apply List.ext_getElem?
      intro i
      rcases Nat.lt_or_ge i k with h | h
      · exact hpre i h
      · rw [List.getElem?_eq_none (by omega), List.getElem?_eq_none (by omega)]
  · (repeat' (first | refine WP_seq ?_ | refine WP_region ?_ | refine WPL_nil ?_ | (apply WPL_t; (first | exact WT_move rfl | exact WT_assign rfl | (apply g_bin; first | exact WT_neq rfl rfl) | (apply g_call; first | exact WT_len rfl rfl)); exact rfl) | refine WP_ret ?_ | (refine WP_cond rfl (fun hb => ?_) (fun hb => ?_) <;> (repeat (first | replace hb := dec_t hb | replace hb := dec_f hb | replace hb := not_t hb | replace hb := not_f hb)) <;> (try (exfalso; first | omega)))))
    refine ⟨.inr rfl, ret1 rfl (.tmp rfl) (List.nil_sublist _) ⟨congrArg exB ?_, rfl⟩⟩
    symm
    rw [decide_eq_false_iff_not]
    intro he
    exact hl (by rw [he])

end Go.Proofs.Ytmghnjahjeinnaa

/- What disks do, in plain Lean (the part without reads). No walk. -/
namespace Go.Proofs.Ytmghnjahjeinnaa
open Go Go.RowKit Go.Kx Go.Fr

theorem ok_iff (d : Disk) : Disk.ok d = true ↔ (1 ≤ d.secs.length ∧ d.secs.length ≤ 4096 ∧ d.pend.length ≤ 4096 ∧ -1 ≤ d.left ∧ d.left ≤ 65536 ∧
    (∀ x ∈ d.pend, 0 ≤ x.at_ ∧ x.at_ < (d.secs.length : Int) ∧ x.data.length = 128) ∧ ∀ y ∈ d.secs, y.length = 128) := by
  have e1 : (d.pend.any (badW d.secs.length) = false) ↔ ∀ x ∈ d.pend, 0 ≤ x.at_ ∧ x.at_ < (d.secs.length : Int) ∧ x.data.length = 128 := by
    rw [List.any_eq_false]
    constructor
    · intro h x hx
      have := h x hx
      simp only [badW, Bool.or_eq_true, decide_eq_true_eq, Bool.not_eq_true', beq_eq_false_iff_ne, not_or] at this
      omega
    · intro h x hx
      have := h x hx
      simp only [badW, Bool.or_eq_true, decide_eq_true_eq, Bool.not_eq_true', beq_eq_false_iff_ne]
      omega
  have e2 : (d.secs.any badB = false) ↔ ∀ y ∈ d.secs, y.length = 128 := by
    rw [List.any_eq_false]
    constructor
    · intro h x hx
      have := h x hx
      simp only [badB, Bool.not_eq_true', beq_eq_false_iff_ne] at this
      omega
    · intro h x hx
      have := h x hx
      simp only [badB, Bool.not_eq_true', beq_eq_false_iff_ne]
      omega
  simp only [Disk.ok, Bool.and_eq_true, Bool.not_eq_true', Bool.or_eq_false_iff, decide_eq_false_iff_not, e1, e2]
  constructor
  · rintro ⟨⟨⟨⟨⟨⟨h1, h2⟩, h3⟩, h4⟩, h5⟩, h6⟩, h7⟩
    exact ⟨by omega, by omega, by omega, by omega, by omega, h6, h7⟩
  · rintro ⟨h1, h2, h3, h4, h5, h6, h7⟩
    exact ⟨⟨⟨⟨⟨⟨by omega, by omega⟩, by omega⟩, by omega⟩, by omega⟩, h6⟩, h7⟩

theorem writeF_zero {d x : Disk} {at_ : Int} {b : Bytes} (h : writeF d at_ b = (x, 0)) :
    Disk.ok d = true ∧ d.stopped = false ∧ (0 ≤ at_ ∧ at_ < (d.secs.length : Int)) ∧ b.length ≤ 128 ∧ d.pend.length ≠ 4096 ∧ x = { d with pend := d.pend ++ [⟨at_, pad b⟩] } := by
  unfold writeF at h
  split at h
  · rename_i hc
    simp only [Bool.and_eq_true, Bool.not_eq_true', decide_eq_true_eq] at hc
    split at h
    · simp at h
    · split at h
      · simp at h
      · rename_i h1 h2
        simp only [Prod.mk.injEq, and_true] at h
        exact ⟨hc.1.1, hc.1.2, hc.2, by omega, h2, h.symm⟩
  · simp at h

theorem pad_length {b : Bytes} (h : b.length ≤ 128) : (pad b).length = 128 := by simp [pad]; omega

theorem ok_write {d : Disk} {at_ : Int} {b : Bytes} (h : Disk.ok d = true) (h0 : 0 ≤ at_) (h1 : at_ < (d.secs.length : Int)) (hb : b.length ≤ 128) (hp : d.pend.length ≠ 4096) :
    Disk.ok { d with pend := d.pend ++ [⟨at_, pad b⟩] } = true := by
  rw [ok_iff] at h ⊢
  obtain ⟨a1, a2, a3, a4, a5, a6, a7⟩ := h
  refine ⟨a1, a2, ?_, a4, a5, ?_, a7⟩
  · show (d.pend ++ [_]).length ≤ 4096
    rw [List.length_append]; simp; omega
  · intro x hx
    rcases List.mem_append.1 hx with hx | hx
    · exact a6 x hx
    · simp only [List.mem_singleton] at hx
      subst hx
      exact ⟨h0, h1, pad_length hb⟩

theorem syncF_zero {d z : Disk} (h : syncF d = (z, 0)) : Disk.ok d = true ∧ d.stopped = false ∧ ¬ (0 ≤ d.left ∧ d.left < (d.pend.length : Int)) ∧ z = ⟨performF d.secs d.pend, [], if 0 ≤ d.left then d.left - d.pend.length else d.left, false⟩ := by
  unfold syncF at h
  split at h
  · rename_i hc
    simp only [Bool.and_eq_true, Bool.not_eq_true'] at hc
    split at h
    · simp at h
    · rename_i hn
      simp only [Prod.mk.injEq, and_true] at h
      exact ⟨hc.1, hc.2, hn, h.symm⟩
  · simp at h

theorem syncF_cases (d : Disk) (h : Disk.ok d = true) (hs : d.stopped = false) : (syncF d).2 = 0 ∨ ((syncF d).2 = 40 ∧ (syncF d).1.stopped = true) := by
  unfold syncF
  rw [if_pos (by simp [h, hs])]
  split
  · exact Or.inr ⟨rfl, rfl⟩
  · exact Or.inl rfl

theorem ok_perform {d : Disk} (h : Disk.ok d = true) (hn : ¬ (0 ≤ d.left ∧ d.left < (d.pend.length : Int))) : Disk.ok ⟨performF d.secs d.pend, [], if 0 ≤ d.left then d.left - d.pend.length else d.left, false⟩ = true := by
  rw [ok_iff] at h ⊢
  obtain ⟨a1, a2, a3, a4, a5, a6, a7⟩ := h
  refine ⟨by rw [performF_length]; exact a1, by rw [performF_length]; exact a2, by simp, ?_, ?_, by simp, ?_⟩
  · show -1 ≤ (if 0 ≤ d.left then d.left - (d.pend.length : Int) else d.left)
    split <;> omega
  · show (if 0 ≤ d.left then d.left - (d.pend.length : Int) else d.left) ≤ 65536
    split <;> omega
  · exact performF_128 a7 fun x hx => (a6 x hx).2.2

theorem checkF_ok {d : Disk} (h : Disk.ok d = true) : checkF d = 0 := by simp [checkF, h]




/-- The sectors of one record: n of them from at on, the first of this kind. -/
def wsF (g : Nat) : Nat → Nat → UInt8 → List UInt8 → List Wr
  | 0, _, _, _ => []
  | n + 1, at_, kind, b => ⟨at_, encF g at_ (if n = 0 then UInt8.ofNat (kind.toNat ||| 2) else kind) (b.take 112)⟩ :: wsF g n (at_ + 1) 0 (b.drop 112)
def allF (g : Nat) : List (List UInt8) → Nat → List Wr
  | [], _ => []
  | b :: r, at_ => wsF g (secsN b.length) at_ 1 b ++ allF g r (at_ + secsN b.length)
theorem wsF_length (g : Nat) : ∀ (n at_ : Nat) (kind : UInt8) (b : List UInt8), (wsF g n at_ kind b).length = n
  | 0, _, _, _ => rfl
  | n + 1, at_, kind, b => by simp [wsF, wsF_length g n]
theorem allF_length (g : Nat) : ∀ (l : List (List UInt8)) (at_ : Nat), (allF g l at_).length = usedN l
  | [], _ => rfl
  | b :: r, at_ => by simp [allF, wsF_length, allF_length g r, usedN]
theorem encF_length (g n : Nat) (kind : UInt8) (b : List UInt8) (hb : b.length ≤ 112) : (encF g n kind b).length = 128 := by
  rw [encF_eq g n kind b hb]
  simp only [List.length_append, numB_length, bodyF_length n kind b hb]

/-- The generation of what is written next. -/
def genF (secs : List (List UInt8)) : Nat := secs.foldl (fun n s => max (max n (getF (s.take 4) + 1)) (getF (s.drop 124) + 1)) 1
theorem genF_snoc (secs : List (List UInt8)) (k : Nat) (h : k < secs.length) : genF (secs.take (k + 1)) = max (max (genF (secs.take k)) (getF (secs[k].take 4) + 1)) (getF (secs[k].drop 124) + 1) := by
  unfold genF; rw [List.take_succ_eq_append_getElem h, List.foldl_append]; rfl

/-- One more write, of a whole sector. -/
theorem write_ok1 {D : Disk} (h : Disk.ok D = true) (hs : D.stopped = false) {a : Nat} (ha : a < D.secs.length) {x : List UInt8} (hx : x.length = 128) (hp : D.pend.length < 4096) : writeF D a x = ({ D with pend := D.pend ++ [⟨a, x⟩] }, 0) ∧ Disk.ok { D with pend := D.pend ++ [⟨a, x⟩] } = true := by
  have hpad : pad x = x := by unfold pad; rw [hx]; simp
  have h2 := ok_write (at_ := (a : Int)) (b := x) h (by omega) (by omega) (by omega) (by omega)
  rw [hpad] at h2
  refine ⟨?_, h2⟩
  unfold writeF
  rw [h, hs, if_pos (by simp; omega), if_neg (by omega), if_neg (by omega), hpad]

abbrev JD := (List (List UInt8) × Int × Int) × Disk
/-- Sync: the journal then, the disk then, the error. -/
def jsyncF (o : List (List UInt8)) (m s : Int) (D : Disk) : JD × Int :=
  if ¬ jOK o m s then ((([], 0, 0), zeroDisk), 1)
  else if Disk.ok D = false then ((([], 0, 0), zeroDisk), 40)
  else if D.stopped = true then ((([], 0, 0), zeroDisk), 40)
  else if m ≠ D.secs.length ∨ D.pend.length ≠ 0 then ((([], 0, 0), zeroDisk), 1)
  else if recordsR D.secs ≠ o.take s.toNat ∨ 2 ^ 32 ≤ genF D.secs then ((([], 0, 0), zeroDisk), 50)
  else if s = o.length then (((o, m, s), D), 0)
  else if (syncF { D with pend := allF (genF D.secs) (o.drop s.toNat) (usedN (o.take s.toNat)) }).2 ≠ 0 then ((([], 0, 0), (syncF { D with pend := allF (genF D.secs) (o.drop s.toNat) (usedN (o.take s.toNat)) }).1), (syncF { D with pend := allF (genF D.secs) (o.drop s.toNat) (usedN (o.take s.toNat)) }).2)
  else (((o, m, o.length), (syncF { D with pend := allF (genF D.secs) (o.drop s.toNat) (usedN (o.take s.toNat)) }).1), 0)

end Go.Proofs.Ytmghnjahjeinnaa

/- The journal's Sync. -/
namespace Go.Proofs.Ytmghnjahjeinnaa
open Go Go.RowKit Go.Kx Go.Fr

theorem im_dz : Im (agg [ex (.slice none 0 0), ex (.slice none 0 0), exI .i64 0, exB false]) (dsk zeroDisk) := Ims.agg (.cons .nil (.cons .nil (.cons (.refl _) (.cons (.refl _) .nil))))
theorem im_sz (e : Int) : Im (tup [agg [ex (.slice none 0 0), exI .i64 0, exI .i64 0], agg [ex (.slice none 0 0), ex (.slice none 0 0), exI .i64 0, exB false], exI .i64 e]) (tup [jr [] 0 0, dsk zeroDisk, exI .i64 e]) := Ims.tup (.cons im_jr0 (.cons im_dz (.cons (.refl _) .nil)))
attribute [local irreducible] recordsR genF getF usedN allF wsF syncF encF

abbrev JPost (r : JD × Int) (p : SP) (loc : List Ent) : Prop := p = tup [jr r.1.1.1 r.1.1.2.1 r.1.1.2.2, dsk r.1.2, exI .i64 r.2] ∧ loc = []

/-- Where Sync does nothing. -/
def jbad (o : List (List UInt8)) (m s : Int) (D : Disk) : Prop := ¬ jOK o m s ∨ Disk.ok D = false ∨ D.stopped = true ∨ m ≠ D.secs.length ∨ D.pend.length ≠ 0

set_option maxHeartbeats 4000000 in
set_option maxRecDepth 100000 in
theorem jsync_bad (o : List (List UInt8)) (m s : Int) (D : Disk) (ho : o.length < 2 ^ 20) (hall : ∀ b ∈ o, b.length < 2 ^ 40) (hbad : jbad o m s D) : FnC Try.prog 21 [jr o m s, dsk D] [] (JPost (jsyncF o m s D)) := by
  refine FnC_enter Try.func21 rfl Try.ntmps21 rfl fun w0 F0 out => ?_
  have hC := jcheck_any o m s ho hall
  have hD := chk_fr D
  have hO := open_any D
  rcases jchk_cases o m s with ⟨hok, hc⟩ | ⟨hok, hc⟩
  · rw [hc] at hC
    rcases checkF_cases D with ⟨dok, hdc⟩ | ⟨dok, hdc⟩
    · rw [hdc] at hD
      by_cases hst : D.stopped = true
      · have eO : openF D = (([], 0, 0), 40) := by unfold openF; rw [if_pos dok, if_pos hst]
        rw [eO] at hO
        have eJ : jsyncF o m s D = ((([], 0, 0), zeroDisk), 40) := by unfold jsyncF; rw [if_neg (fun h => h hok), if_neg (by simp [dok]), if_pos hst]
        rw [eJ]
        (repeat' (first | refine WP_seq ?_ | refine WP_region ?_ | refine WPL_nil ?_ | (apply WPL_t; (first | exact WT_move rfl | exact WT_assign rfl | exact WT_pick (b := true) rfl (fun _ => rfl) (fun e => by cases e) | exact WT_pick (b := false) rfl (fun e => by cases e) (fun _ => rfl) | exact WT_extract rfl rfl | (apply g_load; first | exact WT_load (k := 2) rfl rfl rfl rfl | exact WT_load (k := 3) rfl rfl rfl rfl | exact WT_loada2 (k := 2) rfl rfl rfl | exact WT_loada2 (k := 3) rfl rfl rfl) | (apply g_fld; first | exact WT_field rfl rfl rfl) | (apply g_bin; first | exact WT_neq rfl rfl) | (apply g_call; first | exact WT_len rfl rfl) | (apply g_build; first | exact WT_build2 rfl rfl (by repeat (first | exact PartsO.nil)))); exact rfl) | (refine WPL_off rfl rfl rfl rfl rfl ?_) | (apply WPL_gt; exact rfl; exact rfl; exact rfl; (first | (apply g_load; first | exact WT_load (k := 2) rfl rfl rfl rfl) | (apply g_fld; first | exact WT_field rfl rfl rfl) | (apply g_un; first | exact WT_not rfl)); exact rfl) | refine WP_skip ?_ | refine WP_ret ?_ | refine WP_cond_t rfl ?_ | refine WP_cond_f rfl ?_ | (apply WPL_op0; exact rfl; first | (apply g_callf; first | (refine WO_call Try.func17 rfl hC rfl ?_; rintro _ _ ⟨rfl, rfl⟩) | (refine WO_call Try.func31 rfl hD rfl ?_; rintro _ _ ⟨rfl, rfl⟩) | (refine WO_call Try.func12 rfl hO rfl ?_; rintro _ _ ⟨rfl, rfl⟩)) | (apply g_box; refine WO_box rfl ?_; intro _) | (apply g_alloc; refine WO_alloc ?_; intro _) | (apply g_store; first | refine WO_store (k := 0) (l0 := []) rfl rfl rfl ?_ | refine WO_store (k := 1) (l0 := []) rfl rfl rfl ?_ | refine WO_store (k := 2) (l0 := []) rfl rfl rfl ?_)) | (refine WPL_case rfl rfl (fun hb => ?_) (fun hb => ?_) <;> (repeat (first | replace hb := dec_t hb | replace hb := dec_f hb | replace hb := not_t hb | replace hb := not_f hb)) <;> (try (exfalso; first | fail))) | (refine WP_cond rfl (fun hb => ?_) (fun hb => ?_) <;> (repeat (first | replace hb := not_t hb | replace hb := not_f hb)) <;> (try (exfalso; first | fail)))))
        all_goals (first | (exfalso; simp_all; done) | ((refine ⟨.inr rfl, retw (loc' := []) (by first | exact ret3 rfl (.cella (k := 1) rfl rfl rfl rfl inferInstance rfl) (.cella (k := 0) rfl rfl rfl rfl inferInstance rfl) (.tmp rfl) (List.nil_sublist _) ⟨rfl, rfl⟩ | exact ret3 rfl (.cella (k := 2) rfl rfl rfl rfl inferInstance rfl) (.cella (k := 1) rfl rfl rfl rfl inferInstance rfl) (.tmp rfl) (List.nil_sublist _) ⟨rfl, rfl⟩) ?_ ⟨rfl, rfl⟩⟩); exact im_sz _))
      · have hst' : D.stopped = false := by simpa using hst
        by_cases hm : m = D.secs.length
        · subst hm
          have hp : D.pend.length ≠ 0 := by
            rcases hbad with h | h | h | h | h
            · exact absurd hok h
            · simp [dok] at h
            · exact absurd h hst
            · exact absurd rfl h
            · exact h
          have eO : openF D = (([], 0, 0), 1) := by unfold openF; rw [if_pos dok, if_neg hst, if_neg hp]
          rw [eO] at hO
          have eJ : jsyncF o D.secs.length s D = ((([], 0, 0), zeroDisk), 1) := by unfold jsyncF; rw [if_neg (fun h => h hok), if_neg (by simp [dok]), if_neg hst, if_pos (.inr hp)]
          rw [eJ]
          (repeat' (first | refine WP_seq ?_ | refine WP_region ?_ | refine WPL_nil ?_ | (apply WPL_t; (first | exact WT_move rfl | exact WT_assign rfl | exact WT_pick (b := false) rfl (fun e => by cases e) (fun _ => rfl) | exact WT_extract rfl rfl | (apply g_load; first | exact WT_load (k := 2) rfl rfl rfl rfl | exact WT_load (k := 3) rfl rfl rfl rfl | exact WT_loada2 (k := 2) rfl rfl rfl | exact WT_loada2 (k := 3) rfl rfl rfl) | (apply g_fld; first | exact WT_field rfl rfl rfl) | (apply g_bin; first | exact WT_neq rfl rfl) | (apply g_call; first | exact WT_len rfl rfl) | (apply g_build; first | exact WT_build2 rfl rfl (by repeat (first | exact PartsO.nil)))); exact rfl) | (refine WPL_off rfl rfl rfl rfl rfl ?_) | refine WP_skip ?_ | refine WP_ret ?_ | refine WP_cond_t rfl ?_ | refine WP_cond_f rfl ?_ | (apply WPL_op0; exact rfl; first | (apply g_callf; first | (refine WO_call Try.func17 rfl hC rfl ?_; rintro _ _ ⟨rfl, rfl⟩) | (refine WO_call Try.func31 rfl hD rfl ?_; rintro _ _ ⟨rfl, rfl⟩) | (refine WO_call Try.func12 rfl hO rfl ?_; rintro _ _ ⟨rfl, rfl⟩)) | (apply g_box; refine WO_box rfl ?_; intro _) | (apply g_alloc; refine WO_alloc ?_; intro _) | (apply g_store; first | refine WO_store (k := 0) (l0 := []) rfl rfl rfl ?_ | refine WO_store (k := 1) (l0 := []) rfl rfl rfl ?_ | refine WO_store (k := 2) (l0 := []) rfl rfl rfl ?_)) | (refine WPL_case rfl rfl (fun hb => ?_) (fun hb => ?_) <;> (repeat (first | replace hb := dec_t hb | replace hb := dec_f hb | replace hb := not_t hb | replace hb := not_f hb)) <;> (try (exfalso; first | omega)))))
          all_goals (first | (exfalso; simp_all; done) | ((refine ⟨.inr rfl, retw (loc' := []) (by first | exact ret3 rfl (.cella (k := 1) rfl rfl rfl rfl inferInstance rfl) (.cella (k := 0) rfl rfl rfl rfl inferInstance rfl) (.tmp rfl) (List.nil_sublist _) ⟨rfl, rfl⟩ | exact ret3 rfl (.cella (k := 2) rfl rfl rfl rfl inferInstance rfl) (.cella (k := 1) rfl rfl rfl rfl inferInstance rfl) (.tmp rfl) (List.nil_sublist _) ⟨rfl, rfl⟩) ?_ ⟨rfl, rfl⟩⟩); exact im_sz _))
        · have eJ : jsyncF o m s D = ((([], 0, 0), zeroDisk), 1) := by unfold jsyncF; rw [if_neg (fun h => h hok), if_neg (by simp [dok]), if_neg hst, if_pos (.inl hm)]
          rw [eJ]
          (repeat' (first | refine WP_seq ?_ | refine WP_region ?_ | refine WPL_nil ?_ | (apply WPL_t; (first | exact WT_move rfl | exact WT_assign rfl | exact WT_pick (b := true) rfl (fun _ => rfl) (fun e => by cases e) | (apply g_load; first | exact WT_load (k := 2) rfl rfl rfl rfl | exact WT_load (k := 3) rfl rfl rfl rfl | exact WT_loada2 (k := 2) rfl rfl rfl | exact WT_loada2 (k := 3) rfl rfl rfl) | (apply g_fld; first | exact WT_field rfl rfl rfl) | (apply g_bin; first | exact WT_neq rfl rfl) | (apply g_call; first | exact WT_len rfl rfl) | (apply g_build; first | exact WT_build2 rfl rfl (by repeat (first | exact PartsO.nil)))); exact rfl) | (apply WPL_gt; exact rfl; exact rfl; exact rfl; (first | (apply g_load; first | exact WT_load (k := 2) rfl rfl rfl rfl) | (apply g_fld; first | exact WT_field rfl rfl rfl) | (apply g_un; first | exact WT_not rfl)); exact rfl) | refine WP_skip ?_ | refine WP_ret ?_ | refine WP_cond_f rfl ?_ | (apply WPL_op0; exact rfl; first | (apply g_callf; first | (refine WO_call Try.func17 rfl hC rfl ?_; rintro _ _ ⟨rfl, rfl⟩) | (refine WO_call Try.func31 rfl hD rfl ?_; rintro _ _ ⟨rfl, rfl⟩)) | (apply g_box; refine WO_box rfl ?_; intro _) | (apply g_alloc; refine WO_alloc ?_; intro _) | (apply g_store; first | refine WO_store (k := 0) (l0 := []) rfl rfl rfl ?_ | refine WO_store (k := 1) (l0 := []) rfl rfl rfl ?_)) | (refine WPL_case rfl rfl (fun hb => ?_) (fun hb => ?_) <;> (repeat (first | replace hb := dec_t hb | replace hb := dec_f hb | replace hb := not_t hb | replace hb := not_f hb)) <;> (try (exfalso; first | omega))) | (refine WP_cond rfl (fun hb => ?_) (fun hb => ?_) <;> (repeat (first | replace hb := not_t hb | replace hb := not_f hb)) <;> (try (exfalso; first | fail)))))
          all_goals (first | (exfalso; simp_all; done) | ((refine ⟨.inr rfl, retw (loc' := []) (by first | exact ret3 rfl (.cella (k := 1) rfl rfl rfl rfl inferInstance rfl) (.cella (k := 0) rfl rfl rfl rfl inferInstance rfl) (.tmp rfl) (List.nil_sublist _) ⟨rfl, rfl⟩ | exact ret3 rfl (.cella (k := 2) rfl rfl rfl rfl inferInstance rfl) (.cella (k := 1) rfl rfl rfl rfl inferInstance rfl) (.tmp rfl) (List.nil_sublist _) ⟨rfl, rfl⟩) ?_ ⟨rfl, rfl⟩⟩); exact im_sz _))
    · rw [hdc] at hD
      have eJ : jsyncF o m s D = ((([], 0, 0), zeroDisk), 40) := by unfold jsyncF; rw [if_neg (fun h => h hok), if_pos dok]
      rw [eJ]
      (repeat' (first | refine WP_seq ?_ | refine WP_region ?_ | refine WPL_nil ?_ | (apply WPL_t; (first | exact WT_move rfl | exact WT_assign rfl | (apply g_load; first | exact WT_loada2 (k := 2) rfl rfl rfl | exact WT_loada2 (k := 3) rfl rfl rfl) | (apply g_bin; first | exact WT_neq rfl rfl) | (apply g_build; first | exact WT_build2 rfl rfl (by repeat (first | exact PartsO.nil)))); exact rfl) | refine WP_skip ?_ | refine WP_ret ?_ | refine WP_cond_t rfl ?_ | refine WP_cond_f rfl ?_ | (apply WPL_op0; exact rfl; first | (apply g_callf; first | (refine WO_call Try.func17 rfl hC rfl ?_; rintro _ _ ⟨rfl, rfl⟩) | (refine WO_call Try.func31 rfl hD rfl ?_; rintro _ _ ⟨rfl, rfl⟩)) | (apply g_box; refine WO_box rfl ?_; intro _) | (apply g_alloc; refine WO_alloc ?_; intro _) | (apply g_store; first | refine WO_store (k := 0) (l0 := []) rfl rfl rfl ?_ | refine WO_store (k := 1) (l0 := []) rfl rfl rfl ?_))))
      (refine ⟨.inr rfl, retw (loc' := []) (by first | exact ret3 rfl (.cella (k := 1) rfl rfl rfl rfl inferInstance rfl) (.cella (k := 0) rfl rfl rfl rfl inferInstance rfl) (.tmp rfl) (List.nil_sublist _) ⟨rfl, rfl⟩ | exact ret3 rfl (.cella (k := 2) rfl rfl rfl rfl inferInstance rfl) (.cella (k := 1) rfl rfl rfl rfl inferInstance rfl) (.tmp rfl) (List.nil_sublist _) ⟨rfl, rfl⟩) ?_ ⟨rfl, rfl⟩⟩)
      exact im_sz _
  · rw [hc] at hC
    have eJ : jsyncF o m s D = ((([], 0, 0), zeroDisk), 1) := by unfold jsyncF; rw [if_pos hok]
    rw [eJ]
    (repeat' (first | refine WP_seq ?_ | refine WP_region ?_ | refine WPL_nil ?_ | (apply WPL_t; (first | exact WT_move rfl | exact WT_assign rfl | (apply g_load; first | exact WT_loada2 (k := 3) rfl rfl rfl) | (apply g_bin; first | exact WT_neq rfl rfl) | (apply g_build; first | exact WT_build2 rfl rfl (by repeat (first | exact PartsO.nil)))); exact rfl) | refine WP_ret ?_ | refine WP_cond_t rfl ?_ | (apply WPL_op0; exact rfl; first | (apply g_callf; first | (refine WO_call Try.func17 rfl hC rfl ?_; rintro _ _ ⟨rfl, rfl⟩)) | (apply g_box; refine WO_box rfl ?_; intro _) | (apply g_alloc; refine WO_alloc ?_; intro _) | (apply g_store; first | refine WO_store (k := 0) (l0 := []) rfl rfl rfl ?_ | refine WO_store (k := 1) (l0 := []) rfl rfl rfl ?_))))
    (refine ⟨.inr rfl, retw (loc' := []) (by first | exact ret3 rfl (.cella (k := 1) rfl rfl rfl rfl inferInstance rfl) (.cella (k := 0) rfl rfl rfl rfl inferInstance rfl) (.tmp rfl) (List.nil_sublist _) ⟨rfl, rfl⟩ | exact ret3 rfl (.cella (k := 2) rfl rfl rfl rfl inferInstance rfl) (.cella (k := 1) rfl rfl rfl rfl inferInstance rfl) (.tmp rfl) (List.nil_sublist _) ⟨rfl, rfl⟩) ?_ ⟨rfl, rfl⟩⟩)
    exact im_sz _

end Go.Proofs.Ytmghnjahjeinnaa
