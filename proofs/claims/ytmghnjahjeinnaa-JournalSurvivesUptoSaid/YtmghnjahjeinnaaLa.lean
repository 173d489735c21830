/- The reference's generation and Sector. -/
import Derived.Test.YtmghnjahjeinnaaJour4
import Derived.Test.YtmghnjahjeinnaaFu
namespace Go.Proofs.Ytmghnjahjeinnaa
open Go Go.RowKit Go.Kx Go.Fr

def genM (o : List (List UInt8)) : Nat := o.foldl (fun n s => max (max n (numN (s.take 4))) (numN (s.drop 124))) 0
theorem genM_snoc (o : List (List UInt8)) (k : Nat) (h : k < o.length) : genM (o.take (k + 1)) = max (max (genM (o.take k)) (numN (o[k].take 4))) (numN (o[k].drop 124)) := by
  unfold genM; rw [List.take_succ_eq_append_getElem h, List.foldl_append]; rfl
theorem genM_eq (o : List (List UInt8)) (h : ∀ s ∈ o, s.length = 128) : genF o = genM o + 1 := by
  have key : ∀ (o : List (List UInt8)) (n : Nat), (∀ s ∈ o, s.length = 128) → o.foldl (fun n s => max (max n (getF (s.take 4) + 1)) (getF (s.drop 124) + 1)) (n + 1) = o.foldl (fun n s => max (max n (numN (s.take 4))) (numN (s.drop 124))) n + 1 := by
    intro o
    induction o with
    | nil => intro n _; rfl
    | cons s o ih =>
      intro n hs
      have h1 := hs s (List.mem_cons_self ..)
      rw [List.foldl_cons, List.foldl_cons, ← ih _ (fun x hx => hs x (List.mem_cons_of_mem _ hx)), getF_num _ (by rw [List.length_take]; omega), getF_num _ (by rw [List.length_drop]; omega)]
      congr 1; omega
  exact key o 0 h
theorem genM_lt (o : List (List UInt8)) (h : ∀ s ∈ o, s.length = 128) : genM o < 2 ^ 32 := by
  have key : ∀ (o : List (List UInt8)) (n : Nat), n < 2 ^ 32 → (∀ s ∈ o, s.length = 128) → o.foldl (fun n s => max (max n (numN (s.take 4))) (numN (s.drop 124))) n < 2 ^ 32 := by
    intro o
    induction o with
    | nil => intro n h _; exact h
    | cons s o ih =>
      intro n hn hs
      have h1 := hs s (List.mem_cons_self ..)
      have h2 := numN_lt (s.take 4)
      have h3 := numN_lt (s.drop 124)
      rw [List.length_take, h1] at h2
      rw [List.length_drop, h1] at h3
      refine ih _ ?_ (fun x hx => hs x (List.mem_cons_of_mem _ hx))
      have e2 : 256 ^ (min 4 128) = 2 ^ 32 := by decide
      have e3 : 256 ^ (128 - 124) = 2 ^ 32 := by decide
      dsimp only
      omega
  exact key o 0 (by decide) h
attribute [local irreducible] genM genF numN sumF encF

set_option maxHeartbeats 1000000 in
set_option maxRecDepth 100000 in
theorem generation_any (o : List (List UInt8)) (ho : o.length < 2 ^ 60) (hall : ∀ s ∈ o, s.length = 128) : FnC Try.prog 45 [isl (eSl eByte) o] [] (fun p loc => p = exI .u64 (genF o) ∧ loc = []) := by
  refine FnC_enter Try.func45 rfl Try.ntmps45 rfl fun w0 F0 out => ?_
  have hlt := genM_lt o hall
  (repeat' (first | refine WP_seq ?_ | refine WP_region ?_ | refine WPL_nil ?_ | (apply WPL_t; (first | exact WT_assign rfl); exact rfl) | refine WP_block ?_))
  refine WP_loop (fun k : Nat => ([(0, isl (eSl eByte) o), (3, exI .u64 (genM (o.take k))), (4, exI .i64 k)], [])) (fun k => k ≤ o.length) (fun k => o.length - k) 0 ?_ (Nat.zero_le _) fun k hk => ?_
  · dsimp only
    rw [show genM (o.take 0) = 0 by unfold genM; rfl]
    exact Leads_env (by repeat (first | exact sub_nil | refine sub_cons rfl ?_)) (List.Sublist.refl _)
  by_cases hlk : k < o.length
  · have hs := hall _ (List.getElem_mem hlk)
    have hst := genM_snoc o k hlk
    (repeat' (first | refine WP_seq ?_ | refine WP_region ?_ | refine WPL_nil ?_ | (apply WPL_t; (first | exact WT_move rfl | (apply g_bin; first | exact WT_lss rfl rfl) | (apply g_call; first | exact WT_len rfl rfl)); exact rfl) | refine WP_block ?_ | refine WP_skip ?_ | (refine WP_cond rfl (fun hb => ?_) (fun hb => ?_) <;> (repeat (first | replace hb := dec_t hb | replace hb := dec_f hb)) <;> (try (exfalso; first | omega)))))
    (refine WP_drawl 15 rfl ?_)
    all_goals ((apply WPY_pure 0 rfl (by decide +kernel) rfl (by repeat (first | exact np_ret)) guard_none; (first | exact WT_move rfl); exact rfl))
    all_goals ((apply WPY_pure 1 rfl (by decide +kernel) rfl (by repeat (first | exact np_ret)) guard_none; (first | exact WT_move rfl); exact rfl))
    all_goals ((apply WPY_pure 2 rfl (by decide +kernel) rfl (by repeat (first | exact np_ret)) guard_none; (first | exact WT_move rfl); exact rfl))
    all_goals ((apply WPY_pure 3 rfl (by decide +kernel) rfl (by repeat (first | exact np_ret)) guard_none; (first | (apply g_index; first | exact WT_index rfl rfl rfl)); exact rfl))
    all_goals ((apply WPY_take 4 rfl (by decide +kernel) rfl (by decide +kernel) (by repeat (first | exact np_ret)) guard_none; (first | (apply g_load; first | exact WT_loadf rfl rfl)); exact rfl))
    all_goals ((apply WPY_pure 5 rfl (by decide +kernel) rfl (by repeat (first | exact np_ret)) guard_none; (first | (apply g_slice; first | exact WT_slch rfl rfl rfl)); exact rfl))
    all_goals ((apply WPY_pure 7 rfl (by decide +kernel) rfl (by repeat (first | exact np_ret)) guard_none; (first | exact WT_move rfl); exact rfl))
    all_goals ((apply WPY_pure 8 rfl (by decide +kernel) rfl (by repeat (first | exact np_ret)) guard_none; (first | exact WT_move rfl); exact rfl))
    all_goals ((apply WPY_pure 9 rfl (by decide +kernel) rfl (by repeat (first | exact np_ret)) guard_none; (first | (apply g_index; first | exact WT_index rfl rfl rfl)); exact rfl))
    all_goals ((apply WPY_take 10 rfl (by decide +kernel) rfl (by decide +kernel) (by repeat (first | exact np_ret)) guard_none; (first | (apply g_load; first | exact WT_loadf rfl rfl)); exact rfl))
    all_goals ((apply WPY_pure 11 rfl (by decide +kernel) rfl (by repeat (first | exact np_ret)) guard_none; (first | (apply g_slice; first | exact WT_slcl rfl rfl rfl)); exact rfl))
    all_goals (first | (apply WPY_one 6; exact (by decide +kernel); exact rfl; exact guard_none; exact (fun _ _ h => h); first | (apply g_callf; first | (refine WO_call Try.func63 rfl (number_any _ (by simp only [List.length_take, List.length_drop]; omega)) rfl ?_; rintro _ _ ⟨rfl, rfl⟩))))
    all_goals (first | (apply WPY_one 12; exact (by decide +kernel); exact rfl; exact guard_none; exact (fun _ _ h => h); first | (apply g_callf; first | (refine WO_call Try.func63 rfl (number_any _ (by simp only [List.length_take, List.length_drop]; omega)) rfl ?_; rintro _ _ ⟨rfl, rfl⟩))))
    all_goals ((apply WPY_pure 13 rfl (by decide +kernel) rfl (by repeat (first | exact np_ret)) guard_none; (first | (apply g_call; first | exact WT_max3 rfl rfl rfl)); exact rfl))
    all_goals ((apply WPY_pure 14 rfl (by decide +kernel) rfl (by repeat (first | exact np_ret)) guard_none; (first | exact WT_assign rfl); exact rfl))
    all_goals (refine WPY_done (by decide +kernel) ?_)
    (repeat' (first | refine WP_region ?_ | refine WPL_nil ?_ | (apply WPL_t; (first | exact WT_move rfl | exact WT_assign rfl | (apply g_bin; first | exact WT_add rfl rfl)); exact rfl)))
    refine ⟨k + 1, by omega, by omega, ?_⟩
    dsimp only
    rw [hst]
    have e : ((max (max (genM (o.take k)) (numN (o[k].take 4))) (numN (o[k].drop 124)) : Nat) : Int) = max (max (genM (o.take k) : Int) (numN (o[k].take 4) : Int)) (numN (o[k].drop 124) : Int) := by omega
    rw [e]
    exact Leads_env (by repeat (first | exact sub_nil | refine sub_cons rfl ?_)) (List.Sublist.refl _)
  · have hk9 : k = o.length := by omega
    subst hk9
    rw [List.take_length] at *
    (repeat' (first | refine WP_seq ?_ | refine WP_region ?_ | refine WPL_nil ?_ | (apply WPL_t; (first | exact WT_move rfl | exact WT_assign rfl | (apply g_bin; first | exact WT_lss rfl rfl | exact WT_addu rfl rfl) | (apply g_call; first | exact WT_len rfl rfl)); exact rfl) | refine WP_ret ?_ | refine WP_exit ?_ | (refine WP_cond rfl (fun hb => ?_) (fun hb => ?_) <;> (repeat (first | replace hb := dec_t hb | replace hb := dec_f hb)) <;> (try (exfalso; first | omega)))))
    refine ⟨.inr rfl, ret1 rfl (.tmp rfl) (List.nil_sublist _) ⟨congrArg (exI .u64) ?_, rfl⟩⟩
    rw [genM_eq o hall, show IntKind.u64.bits = 64 from rfl]
    omega

set_option maxHeartbeats 4000000 in
set_option maxRecDepth 100000 in
theorem sector_any (g n : Nat) (b1 b2 : Bool) (p : List UInt8) (hg : g < 2 ^ 64) (hn : n < 2 ^ 62) (hp : p.length ≤ 112) : FnC Try.prog 47 [exI .u64 g, exI .i64 n, exB b1, exB b2, isl eByte p] [] (fun q loc => q = isl eByte (encF g n (UInt8.ofNat (b1.toNat + 2 * b2.toNat)) p) ∧ loc = []) := by
  refine FnC_enter Try.func47 rfl Try.ntmps47 rfl fun w0 F0 out => ?_
  have hn2 : n % 2 ^ 64 = n := Nat.mod_eq_of_lt (by omega)
  have hNt : Nt (112 - (p.length : Int)) (112 - p.length) := ⟨by omega⟩
  generalize hkd : UInt8.ofNat (b1.toNat + 2 * b2.toNat) = kd
  have hbl := bodyF_length n kd p hp
  have hsum : sumF (bodyF n kd p) < 2 ^ 64 := Nat.lt_trans (sum_lt _) (by decide)
  cases b1 <;> cases b2
  all_goals (repeat' (first | (apply cut_at 9; refine Stop.out ?_) | (apply WPL_op0; exact rfl; apply g_append; refine WO_append_row (k := 1) (l0 := []) rfl rfl rfl rfl (Src_row2 (k := 0) rfl rfl rfl) rfl ?_; intro _) | (apply WPL_op0; exact rfl; apply g_append; refine WO_append_zeros (k := 1) (l0 := []) rfl rfl rfl rfl rfl ?_; intro _) | refine WP_seq ?_ | refine WP_region ?_ | refine WPL_nil ?_ | (apply WPL_t; (first | exact WT_move rfl | exact WT_assign rfl | (apply g_bin; first | exact WT_addu rfl rfl | exact WT_sub rfl rfl) | (apply g_conv; first | exact WT_convu8 rfl rfl rfl | exact WT_convu rfl rfl rfl) | (apply g_call; first | exact WT_len rfl rfl)); exact rfl) | refine WP_skip ?_ | refine WP_cond_t rfl ?_ | refine WP_cond_f rfl ?_ | (apply WPL_op0; exact rfl; first | (apply g_callf; first | (refine WO_call Try.func66 rfl (numeral_any _ _ (by first | exact Nat.mod_lt _ (by decide)) (by decide)) rfl ?_; rintro _ _ ⟨b, rfl, rfl⟩)) | (apply g_append; (first | (refine WO_append (k := 1) (l0 := []) rfl rfl (by first | exact Src_isl rfl) rfl ?_)); intro _) | (apply g_bslice; (first | refine WO_bslice rfl (by repeat (first | exact PartsO.nil | (apply PartsO.cons; exact rfl; exact inferInstance; exact rfl; exact rfl))) ?_); intro _))))
  all_goals (try refine Stop.mk ?_)
  all_goals apply WP_leads
  all_goals first
    | (refine Leads_fvec (t := 12) (k := 1) (E := eByte) (fs := byV) (bodyF n kd p) rfl rfl ?_ ?_ (hby := ?_)
       · rw [flat_byV, flat_byV]; simp only [bodyF, List.map_append, List.map_cons, List.map_nil, List.append_assoc, show IntKind.u64.bits = 64 from rfl, hn2]; rw [← hkd]; rfl
       · rw [hbl]; show 116 = 2 + 2 + p.length + (112 - p.length); omega
       · show (2 + 2 + p.length + (112 - p.length)) * 1 ≤ 140737488355328; omega)
    | skip
  all_goals (repeat' (first | refine WP_seq ?_ | refine WP_region ?_ | refine WPL_nil ?_ | (apply WPL_t; (first | exact WT_move rfl | exact WT_assign rfl | (apply g_conv; first | exact WT_convu rfl rfl rfl)); exact rfl) | refine WP_ret ?_ | (apply WPL_op0; exact rfl; first | (apply g_callf; first | (refine WO_call Try.func66 rfl (numeral_any _ _ (by first | assumption | exact Nat.mod_lt _ (by decide)) (by decide)) rfl ?_; rintro _ _ ⟨b, rfl, rfl⟩) | (refine WO_call Try.func67 rfl (checksum_any _ (by omega)) rfl ?_; rintro _ _ ⟨rfl, rfl⟩)) | (apply g_append; (first | (refine WO_append (k := 1) (l0 := []) rfl rfl (by first | exact Src_isl rfl | exact Src_rowW (k := 0) rfl rfl) rfl ?_) | (refine WO_append_row (k := 1) (l0 := []) rfl rfl rfl rfl (by first | exact Src_rowW (k := 0) rfl rfl) rfl ?_) | (refine WO_append (k := 2) (l0 := []) rfl rfl (by first | exact Src_rowW (k := 0) rfl rfl) rfl ?_)); intro _))))
  all_goals apply retP_leads
  all_goals first
    | (refine Leads_fvec (t := 10) (k := 2) (E := eByte) (fs := byV) (encF g n kd p) rfl rfl ?_ ?_ (hby := ?_)
       · rw [flat_byV, flat_byV, encF_eq g n kd p hp]; simp only [List.map_append, List.append_assoc, show IntKind.u64.bits = 64 from rfl]; rw [Nat.mod_eq_of_lt hsum]
       · rw [encF_length g n kd p hp]; show 128 = 4 + 4 + (bodyF n kd p).length + 4; omega
       · show (4 + 4 + (bodyF n kd p).length + 4) * 1 ≤ 140737488355328; omega)
    | exact ⟨.inr rfl, ret1 rfl (.tmp rfl) (List.nil_sublist _) ⟨rfl, rfl⟩⟩
end Go.Proofs.Ytmghnjahjeinnaa
