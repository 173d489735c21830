/- The reference disk's Sync. -/
import Derived.Test.YtckcdokfhdckhaaFt
import Derived.Test.YtckcdokfhdckhaaTi
import Derived.Test.YtckcdokfhdckhaaDisk3
import Derived.Test.YtckcdokfhdckhaaDisk1
namespace Go.Proofs.Ytckcdokfhdckhaa
open Go Go.RowKit Go.Kx Go.Fr

theorem rchk_frs (D : Disk) : FnC Try.prog 16 [dsk D] [] (fun p loc => p = exI .i64 (checkF D) ∧ loc = []) := by
  refine FnC_of fun F w vals h => ?_
  obtain ⟨v, rfl, hv⟩ := cells1 h
  obtain ⟨sa, sn, sc, pa, pn, pc, rfl, h1, h2⟩ := dsk_of hv
  refine (rcheck_any F w sa sn sc pa pn pc D.left D.stopped D.secs D.pend h1 h2).mono ?_
  rintro e w' ⟨rfl, hb⟩
  exact ⟨_, _, rfl, ⟨rfl, rfl⟩, rfl, hb⟩
theorem im_dzs : Im (agg [ex (.slice none 0 0), ex (.slice none 0 0), exI .i64 0, exB false]) (dsk zeroDisk) := Ims.agg (.cons .nil (.cons .nil (.cons (.refl _) (.cons (.refl _) .nil))))
attribute [local irreducible] performF syncF

set_option maxHeartbeats 4000000 in
set_option maxRecDepth 100000 in
theorem rsync_stop (secs : List Bytes) (pend : List Wr) (L : Nat) (hL : L < pend.length) (dok : Disk.ok ⟨secs, pend, (L : Int), false⟩ = true) : FnC Try.prog 24 [agg [isl (eSl eByte) secs, isl eWr pend, exI .i64 (L : Int), exB false]] [] (fun p loc => p = tup [dsk (stopsF ⟨secs, pend, (L : Int), false⟩), exI .i64 40] ∧ loc = []) := by
  refine FnC_enter Try.func24 rfl Try.ntmps24 rfl fun w0 F0 out => ?_
  have hC := rchk_frs ⟨secs, pend, (L : Int), false⟩
  rw [show checkF ⟨secs, pend, (L : Int), false⟩ = 0 by unfold checkF; rw [if_pos dok]] at hC
  obtain ⟨s1, s2, s3, s4, s5, s6, s7⟩ := Disk.ok_out dok
  have hpk := pend_ok dok
  have hsk := secs_ok dok
  dsimp only at s1 s2 s3 s4 s5 hpk hsk
  have hpl := performF_length secs
  (repeat' (first | (apply cut_at 7; refine Stop.out ?_) | refine WP_seq ?_ | refine WP_region ?_ | refine WPL_nil ?_ | (apply WPL_t; (first | exact WT_move rfl | exact WT_assign rfl | exact WT_pick (b := true) rfl (fun _ => rfl) (fun e => by cases e) | exact WT_pick (b := false) rfl (fun e => by cases e) (fun _ => rfl) | (apply g_load; first | exact WT_load (k := 1) rfl rfl rfl rfl | exact WT_loada2 (k := 1) rfl rfl rfl) | (apply g_fld; first | exact WT_field rfl rfl rfl) | (apply g_bin; first | exact WT_neq rfl rfl | exact WT_geq rfl rfl) | (apply g_call; first | exact WT_len rfl rfl)); exact rfl) | (apply WPL_gt; exact rfl; exact rfl; exact rfl; (first | exact WT_move rfl | (apply g_load; first | exact WT_load (k := 1) rfl rfl rfl rfl) | (apply g_fld; first | exact WT_field rfl rfl rfl) | (apply g_bin; first | exact WT_lss rfl rfl)); exact rfl) | refine WP_skip ?_ | refine WP_cond_f rfl ?_ | (apply WPL_op0; exact rfl; first | (apply g_callf; first | (refine WO_call Try.func16 rfl hC rfl ?_; rintro _ _ ⟨rfl, rfl⟩)) | (apply g_box; refine WO_box rfl ?_; intro _) | (apply g_alloc; refine WO_alloc ?_; intro _)) | (refine WP_cond rfl (fun hb => ?_) (fun hb => ?_) <;> (repeat (first | replace hb := dec_t hb | replace hb := dec_f hb)) <;> (try (exfalso; first | omega)))))
  all_goals (refine ⟨?_⟩)
  all_goals (rename_i b1 b2)
  all_goals (try rw [show decide ((L : Int) < (pend.length : Int)) = true from decide_eq_true (by omega)])
  all_goals (refine WP_cutR 7 (fun z : Nat × Nat × Nat => ([(1, ex (.pointer (some ⟨b1, 0, none⟩))), (2, ex (.pointer (some ⟨b2, 0, none⟩))), (4, exI .i64 L), (5, exB true), (6, ex (.pointer (some ⟨z.1, 0, none⟩)))], [row z.1 25 4 [ex (.slice (some ⟨z.2.1, 0, none⟩) secs.length z.2.2), ex (.slice none 0 0), exI .i64 (L : Int), exB false], row z.2.1 35 (z.2.2 * 1) (secs.flatMap (slV eByte)), row b2 25 4 [ex (.slice none 0 0), ex (.slice none 0 0), exI .i64 0, exB false], row b1 25 4 [isl (eSl eByte) secs, isl eWr pend, exI .i64 (L : Int), exB false]])) (fun z => secs.length ≤ z.2.2 ∧ z.2.2 ≤ maxLen) ?_ fun z hz => ?_)
  ·
    (refine WP_drawl 8 rfl ?_)
    (repeat' (first | (refine WPY_vv (k := 0) rfl (by omega) ?_; intro _ _ hv _ _; subst hv) | (refine WPY_vv (k := 1) rfl (by omega) ?_; intro _ _ hv _ _; subst hv) | refine WPY_done (by decide +kernel) ?_ | (apply WPY_pure 1 rfl (by decide +kernel) rfl (by repeat (first | exact np_ret)) guard_none) | (apply WPY_take 2 rfl (by decide +kernel) rfl (by decide +kernel) (by repeat (first | exact np_ret)) guard_none) | (apply WPY_pure 4 rfl (by decide +kernel) rfl (by repeat (first | exact np_ret)) guard_none) | (apply WPY_take 5 rfl (by decide +kernel) rfl (by decide +kernel) (by repeat (first | exact np_ret)) guard_none) | (apply WPY_pure 6 rfl (by decide +kernel) rfl (by repeat (first | exact np_ret)) guard_none) | (refine WPY_one (H' := feet []) 8 (by decide +kernel) rfl guard_none (fun h => absurd h (by decide)) ?_) | (refine WPY_one 7 (by decide +kernel) rfl guard_none (fun _ _ h => h) ?_) | (refine WPY_one 0 (by decide +kernel) rfl guard_none (fun _ _ h => h) ?_) | (refine WPY_one 3 (by decide +kernel) rfl guard_none (fun _ _ h => h) ?_) | (refine WPY_two 0 7 (by decide +kernel) rfl guard_none (fun _ _ h => h) rfl guard_none (fun _ _ h => h) ?_ ?_) | (refine WPY_two 3 7 (by decide +kernel) rfl guard_none (fun _ _ h => h) rfl guard_none (fun _ _ h => h) ?_ ?_) | (apply g_alloc; refine WO_alloc ?_; intro _) | (apply g_store; first | refine WO_store (k := 0) (l0 := []) rfl rfl rfl ?_ | refine WO_store (k := 1) (l0 := []) rfl rfl rfl ?_) | (apply g_append; (first | (refine WO_append_row (k := 0) (l0 := _) rfl rfl rfl rfl (by first | exact Src_isl rfl) rfl ?_ (hH := List.Sublist.refl _)) | (refine WO_append_row (k := 0) (l0 := _) rfl rfl rfl rfl (by first | exact Src_isl rfl) rfl ?_ (hH := List.sublist_cons_self _ _)) | (refine WO_append_row (k := 1) (l0 := _) rfl rfl rfl rfl (by first | exact Src_isl rfl) rfl ?_ (hH := List.sublist_cons_self _ _))); intro _) | (apply g_bslice; (first | refine WO_bslice0 rfl ?_); intro _) | (apply blt_h; exact rfl) | (first | (apply g_load; first | exact WT_load (k := 1) rfl rfl rfl rfl) | (apply g_fld; first | exact WT_field rfl rfl rfl) | (apply g_build; first | exact WT_build2 rfl rfl (by repeat (first | exact PartsO.nil | (apply PartsO.cons; exact rfl; exact inferInstance; exact rfl; exact rfl)))))))
    all_goals first | (refine cut_here (_, _, _) ?_ (Leads_then (LeadsS_vec_row (k := 1) rfl) (Leads_env (by repeat (first | exact sub_nil | refine sub_cons rfl ?_)) (List.Sublist.refl _))); exact ⟨by dsimp only; omega, by assumption⟩) | (refine cut_here (_, _, _) ?_ (Leads_then (LeadsS_vec_row (k := 0) rfl) (Leads.trans (Leads_perm (List.Perm.swap _ _ _)) (Leads_env (by repeat (first | exact sub_nil | refine sub_cons rfl ?_)) (List.Sublist.refl _)))); exact ⟨by dsimp only; omega, by assumption⟩) | trace_state
  ·
    obtain ⟨b6, bb, cc⟩ := z
    obtain ⟨hz1, hz2⟩ := hz
    dsimp only at hz1 hz2 ⊢
    rw [flat_slV]
    (repeat' (first | refine WP_seq ?_ | refine WP_region ?_ | refine WPL_nil ?_ | (apply WPL_t; (first | exact WT_assign rfl); exact rfl) | refine WP_block ?_))
    refine WP_loop (fun k : Nat => ([(1, ex (.pointer (some ⟨b1, 0, none⟩))), (2, ex (.pointer (some ⟨b2, 0, none⟩))), (4, exI .i64 L), (5, exB true), (6, ex (.pointer (some ⟨b6, 0, none⟩))), (7, exI .i64 k)], [row b6 25 4 [ex (.slice (some ⟨bb, 0, none⟩) secs.length cc), ex (.slice none 0 0), exI .i64 (L : Int), exB false], row bb 35 (cc * 1) ((performF secs (pend.take k)).map (isl eByte)), row b2 25 4 [ex (.slice none 0 0), ex (.slice none 0 0), exI .i64 0, exB false], row b1 25 4 [isl (eSl eByte) secs, isl eWr pend, exI .i64 (L : Int), exB false]])) (fun k => k ≤ L) (fun k => L - k) 0 ?_ (Nat.zero_le _) fun k hk => ?_
    · dsimp only
      rw [show performF secs (pend.take 0) = secs by unfold performF; rfl]
      exact Leads_env (by repeat (first | exact sub_nil | refine sub_cons rfl ?_)) (List.Sublist.refl _)
    have hpk2 : ∀ (h : k < pend.length), (0 ≤ pend[k].at_ ∧ pend[k].at_ < (secs.length : Int)) ∧ pend[k].data.length = 128 := fun h => hpk k h
    have hpl2 := hpl (pend.take k)
    by_cases hlt : k < L
    · obtain ⟨⟨g1, g2⟩, g3⟩ := hpk2 (by omega)
      have hst := performF_step secs pend k (by omega)
      (repeat' (first | refine WP_seq ?_ | refine WP_region ?_ | refine WPL_nil ?_ | (apply WPL_t; (first | exact WT_move rfl | (apply g_bin; first | exact WT_lss rfl rfl)); exact rfl) | refine WP_block ?_ | refine WP_skip ?_ | (refine WP_cond rfl (fun hb => ?_) (fun hb => ?_) <;> (repeat (first | replace hb := dec_t hb | replace hb := dec_f hb)) <;> (try (exfalso; first | omega)))))
      (refine WP_drawl 15 rfl ?_)
      all_goals ((apply WPY_pure 0 rfl (by decide +kernel) rfl (by repeat (first | exact np_ret)) guard_none; (first | (apply g_fld; first | exact WT_field rfl rfl rfl)); exact rfl))
      all_goals ((apply WPY_take 1 rfl (by decide +kernel) rfl (by decide +kernel) (by repeat (first | exact np_ret)) guard_none; (first | (apply g_load; first | exact WT_load (k := 0) rfl rfl rfl rfl)); exact rfl))
      all_goals ((apply WPY_pure 2 rfl (by decide +kernel) rfl (by repeat (first | exact np_ret)) guard_none; (first | (apply g_fld; first | exact WT_field rfl rfl rfl)); exact rfl))
      all_goals ((apply WPY_take 3 rfl (by decide +kernel) rfl (by decide +kernel) (by repeat (first | exact np_ret)) guard_none; (first | (apply g_load; first | exact WT_load (k := 3) rfl rfl rfl rfl)); exact rfl))
      all_goals ((apply WPY_pure 4 rfl (by decide +kernel) rfl (by repeat (first | exact np_ret)) guard_none; (first | exact WT_move rfl); exact rfl))
      all_goals ((apply WPY_pure 5 rfl (by decide +kernel) rfl (by repeat (first | exact np_ret)) guard_none; (first | (apply g_index; first | exact WT_indexW rfl rfl rfl)); exact rfl))
      all_goals ((apply WPY_pure 6 rfl (by decide +kernel) rfl (by repeat (first | exact np_ret)) guard_none; (first | (apply g_fld; first | exact WT_fieldf rfl rfl rfl)); exact rfl))
      all_goals ((apply WPY_take 7 rfl (by decide +kernel) rfl (by decide +kernel) (by repeat (first | exact np_ret)) guard_none; (first | (apply g_load; first | exact WT_loadf rfl rfl)); exact rfl))
      all_goals ((apply WPY_pure 8 rfl (by decide +kernel) rfl (by repeat (first | exact np_ret)) guard_none; (first | (apply g_fld; first | exact WT_field rfl rfl rfl)); exact rfl))
      all_goals ((apply WPY_take 9 rfl (by decide +kernel) rfl (by decide +kernel) (by repeat (first | exact np_ret)) guard_none; (first | (apply g_load; first | exact WT_load (k := 3) rfl rfl rfl rfl)); exact rfl))
      all_goals ((apply WPY_pure 10 rfl (by decide +kernel) rfl (by repeat (first | exact np_ret)) guard_none; (first | exact WT_move rfl); exact rfl))
      all_goals ((apply WPY_pure 11 rfl (by decide +kernel) rfl (by repeat (first | exact np_ret)) guard_none; (first | (apply g_index; first | exact WT_indexW rfl rfl rfl)); exact rfl))
      all_goals ((apply WPY_pure 12 rfl (by decide +kernel) rfl (by repeat (first | exact np_ret)) guard_none; (first | (apply g_fld; first | exact WT_fieldf rfl rfl rfl)); exact rfl))
      all_goals ((apply WPY_take 13 rfl (by decide +kernel) rfl (by decide +kernel) (by repeat (first | exact np_ret)) guard_none; (first | (apply g_load; first | exact WT_loadf rfl rfl)); exact rfl))
      all_goals ((apply WPY_pure 14 rfl (by decide +kernel) rfl (by repeat (first | exact np_ret)) guard_none; (first | (apply g_index; first | exact WT_indexoz rfl rfl rfl)); exact rfl))
      all_goals (first | (apply WPY_one 15; exact (by decide +kernel); exact rfl; exact guard_none; exact (fun h => absurd h (by decide)); first | (apply g_store; first | refine WO_store (k := 1) (l0 := []) rfl rfl rfl ?_)))
      all_goals (refine WPY_done (by decide +kernel) ?_)
      (repeat' (first | refine WP_region ?_ | refine WPL_nil ?_ | (apply WPL_t; (first | exact WT_move rfl | exact WT_assign rfl | (apply g_bin; first | exact WT_add rfl rfl)); exact rfl)))
      refine ⟨k + 1, by omega, by omega, ?_⟩
      dsimp only
      rw [hst, ← putC_set (isl eByte) _ _ _ (by omega)]
      have hz0 : 0 + pend[k].at_.toNat * 1 = pend[k].at_.toNat := by omega
      rw [hz0]
      exact Leads_env (by repeat (first | exact sub_nil | refine sub_cons rfl ?_)) (List.Sublist.refl _)
    · have hk9 : k = L := by omega
      subst hk9
      (repeat' (first | refine WP_seq ?_ | refine WP_region ?_ | refine WPL_nil ?_ | (apply WPL_t; (first | exact WT_move rfl | (apply g_load; first | exact WT_load (k := 3) rfl rfl rfl rfl | exact WT_loadfa2 rfl rfl) | (apply g_fld; first | exact WT_field rfl rfl rfl) | (apply g_bin; first | exact WT_lss rfl rfl) | (apply g_index; first | exact WT_indexW rfl rfl rfl)); exact rfl) | refine WP_exit ?_ | refine WP_cond_t rfl ?_ | (apply WPL_op0; exact rfl; first | (apply g_alloc; refine WO_alloc ?_; intro _) | (apply g_store; first | refine WO_store (k := 0) (l0 := []) rfl rfl rfl ?_)) | (refine WP_cond rfl (fun hb => ?_) (fun hb => ?_) <;> (repeat (first | replace hb := dec_t hb | replace hb := dec_f hb)) <;> (try (exfalso; first | omega)))))
      obtain ⟨⟨g1, g2⟩, g3⟩ := hpk k hL
      have hgl : ((performF secs (pend.take k)).map (isl eByte))[0 + pend[k].at_.toNat * 1]? = some (isl eByte ((performF secs (pend.take k)).getD pend[k].at_.toNat [])) := by
        rw [show 0 + pend[k].at_.toNat * 1 = pend[k].at_.toNat by omega, List.getElem?_map, List.getElem?_eq_getElem (by omega)]
        simp only [List.getD_eq_getElem?_getD, List.getElem?_eq_getElem (show pend[k].at_.toNat < (performF secs (pend.take k)).length by omega)]
        rfl
      have hold : ((performF secs (pend.take k)).getD pend[k].at_.toNat []).length = 128 := by
        have h := performF_128 (l := pend.take k) hsk (fun x hx => by obtain ⟨q, hq, rfl⟩ := List.mem_iff_getElem.1 (List.mem_of_mem_take hx); exact (hpk q hq).2)
        rw [List.getD_eq_getElem?_getD, List.getElem?_eq_getElem (by omega)]
        exact h _ (List.getElem_mem _)
      generalize ho : (performF secs (pend.take k)).getD pend[k].at_.toNat [] = old at hgl hold
      (refine WP_drawl 18 rfl ?_)
      (repeat' (first | (refine WPY_vv (k := 0) rfl (by simp only [List.length_take, List.length_drop]; omega) ?_; intro _ _ hv _ _; subst hv) | refine WPY_done (by decide +kernel) ?_ | (apply WPY_pure 0 rfl (by decide +kernel) rfl (by repeat (first | exact np_ret)) guard_none) | (apply WPY_take 1 rfl (by decide +kernel) rfl (by decide +kernel) (by repeat (first | exact np_ret)) guard_none) | (apply WPY_pure 2 rfl (by decide +kernel) rfl (by repeat (first | exact np_ret)) guard_none) | (apply WPY_take 3 rfl (by decide +kernel) rfl (by decide +kernel) (by repeat (first | exact np_ret)) guard_none) | (apply WPY_pure 5 rfl (by decide +kernel) rfl (by repeat (first | exact np_ret)) guard_none) | (apply WPY_take 6 rfl (by decide +kernel) rfl (by decide +kernel) (by repeat (first | exact np_ret)) guard_none) | (apply WPY_pure 7 rfl (by decide +kernel) rfl (by repeat (first | exact np_ret)) guard_none) | (apply WPY_pure 9 rfl (by decide +kernel) rfl (by repeat (first | exact np_ret)) guard_none) | (apply WPY_take 10 rfl (by decide +kernel) rfl (by decide +kernel) (by repeat (first | exact np_ret)) guard_none) | (apply WPY_pure 11 rfl (by decide +kernel) rfl (by repeat (first | exact np_ret)) guard_none) | (apply WPY_take 12 rfl (by decide +kernel) rfl (by decide +kernel) (by repeat (first | exact np_ret)) guard_none) | (apply WPY_pure 13 rfl (by decide +kernel) rfl (by repeat (first | exact np_ret)) guard_none) | (apply WPY_take 14 rfl (by decide +kernel) rfl (by decide +kernel) (by repeat (first | exact np_ret)) guard_none) | (apply WPY_pure 15 rfl (by decide +kernel) rfl (by repeat (first | exact np_ret)) guard_none) | (apply WPY_pure 17 rfl (by decide +kernel) rfl (by repeat (first | exact np_ret)) guard_none) | (refine WPY_one (H' := feet []) 18 (by decide +kernel) rfl guard_none (fun h => absurd h (by decide)) ?_) | (refine WPY_one 8 (by decide +kernel) rfl guard_none (fun _ _ h => h) ?_) | (refine WPY_one 4 (by decide +kernel) rfl guard_none (fun _ _ h => h) ?_) | (refine WPY_one 16 (by decide +kernel) rfl guard_none (fun _ _ h => h) ?_) | (apply g_store; first | refine WO_store (k := 3) (l0 := []) rfl rfl rfl ?_) | (apply g_append; (first | (refine WO_append_row (k := 0) (l0 := _) rfl rfl rfl rfl (by first | exact Src_isl rfl) rfl ?_ (hH := List.Sublist.refl _)) | (refine WO_append (k := 0) (l0 := _) rfl rfl (by first | exact Src_isl rfl) rfl ?_ (hH := List.Sublist.refl _))); intro _) | (apply g_bslice; (first | refine WO_bslice0 rfl ?_); intro _) | (apply blt_h; exact rfl) | (first | (apply g_load; first | exact WT_load (k := 0) rfl rfl rfl rfl | exact WT_load (k := 1) rfl rfl rfl rfl | exact WT_load (k := 2) rfl rfl (by assumption) rfl) | (apply g_fld; first | exact WT_field rfl rfl rfl) | (apply g_index; first | exact WT_indexoz rfl rfl rfl) | (apply g_slice; first | exact WT_slcl rfl rfl rfl | exact WT_slch rfl rfl rfl))))
      (repeat' (first | refine WP_seq ?_ | refine WP_region ?_ | refine WPL_nil ?_ | (apply WPL_t; (first | exact WT_assign rfl | (apply g_load; first | exact WT_loada2 (k := 2) rfl rfl rfl) | (apply g_fld; first | exact WT_field rfl rfl rfl)); exact rfl) | refine WP_ret ?_ | (apply WPL_op0; exact rfl; first | (apply g_store; first | refine WO_store (k := 2) (l0 := []) rfl rfl rfl ?_ | refine WO_store (k := 4) (l0 := []) rfl rfl rfl ?_))))
      have hnw : nthW pend k = pend[k] := by unfold nthW; rw [List.getD_eq_getElem?_getD, List.getElem?_eq_getElem hL]; rfl
      have hat : 0 + pend[k].at_.toNat * 1 = pend[k].at_.toNat := by omega
      rw [hat]
      apply retP_leads
      · exact Leads.trans (Leads_fcell (j := 0) (k := 2) (i := pend[k].at_.toNat) (E := eByte) (fs := byV) (tornF pend[k] old) rfl rfl (by unfold tornF; rw [List.flatMap_append]; rfl) (by unfold tornF; rw [List.length_append, Nat.zero_add]) rfl (by rw [putC_get (by rw [List.length_map, hpl]; simp only [List.length_cons, List.length_nil]; omega), if_pos (by simp only [List.length_cons, List.length_nil]; omega), Nat.sub_self]; rfl) (hby := by simp only [List.length_take, List.length_drop, eByte]; omega)) (Leads_then (LeadsS_row_vec (k := 2) (n := secs.length) (c := cc) (sz := 1) rfl rfl (by rw [putC_then _ _ _ _ _ (by omega), List.length_map, List.length_set, hpl]; omega) (by decide) hz2) (Leads_fcell (j := 2) (k := 2) (i := 0) (E := eSl eByte) (fs := fun b => [isl eByte b]) ((performF secs (pend.take k)).set pend[k].at_.toNat (tornF pend[k] old)) rfl rfl (by rw [putC_then _ _ _ _ _ (by omega)]; exact List.map_eq_flatMap) (by rw [List.length_set, hpl]) rfl rfl))
      (refine ⟨.inr rfl, retw (loc' := []) (by first | exact ret2 rfl (.cella (k := 2) rfl rfl rfl rfl inferInstance rfl) (.tmp rfl) (List.nil_sublist _) ⟨rfl, rfl⟩) ?_ ⟨rfl, rfl⟩⟩)
      unfold stopsF
      dsimp only
      rw [Int.toNat_natCast, hnw, ho]
      exact Ims.tup (.cons (Ims.agg (.cons (.refl _) (.cons Im.nil (.cons (.refl _) (.cons (.refl _) .nil))))) (.cons (.refl _) .nil))

set_option maxHeartbeats 4000000 in
set_option maxRecDepth 100000 in
theorem rsync_ge (secs : List Bytes) (pend : List Wr) (left : Int) (hL0 : 0 ≤ left) (hL : ¬ left < (pend.length : Int)) (dok : Disk.ok ⟨secs, pend, left, false⟩ = true) : FnC Try.prog 24 [agg [isl (eSl eByte) secs, isl eWr pend, exI .i64 left, exB false]] [] (fun p loc => p = tup [dsk ⟨performF secs pend, [], left - pend.length, false⟩, exI .i64 0] ∧ loc = []) := by
  refine FnC_enter Try.func24 rfl Try.ntmps24 rfl fun w0 F0 out => ?_
  have hC := rchk_frs ⟨secs, pend, left, false⟩
  rw [show checkF ⟨secs, pend, left, false⟩ = 0 by unfold checkF; rw [if_pos dok]] at hC
  obtain ⟨s1, s2, s3, s4, s5, s6, s7⟩ := Disk.ok_out dok
  have hpk := pend_ok dok
  have hsk := secs_ok dok
  dsimp only at s1 s2 s3 s4 s5 hpk hsk
  have hpl := performF_length secs
  (repeat' (first | (apply cut_at 7; refine Stop.out ?_) | refine WP_seq ?_ | refine WP_region ?_ | refine WPL_nil ?_ | (apply WPL_t; (first | exact WT_move rfl | exact WT_assign rfl | exact WT_pick (b := true) rfl (fun _ => rfl) (fun e => by cases e) | exact WT_pick (b := false) rfl (fun e => by cases e) (fun _ => rfl) | (apply g_load; first | exact WT_load (k := 1) rfl rfl rfl rfl | exact WT_loada2 (k := 1) rfl rfl rfl) | (apply g_fld; first | exact WT_field rfl rfl rfl) | (apply g_bin; first | exact WT_neq rfl rfl | exact WT_geq rfl rfl) | (apply g_call; first | exact WT_len rfl rfl)); exact rfl) | (apply WPL_gt; exact rfl; exact rfl; exact rfl; (first | exact WT_move rfl | (apply g_load; first | exact WT_load (k := 1) rfl rfl rfl rfl) | (apply g_fld; first | exact WT_field rfl rfl rfl) | (apply g_bin; first | exact WT_lss rfl rfl)); exact rfl) | refine WP_skip ?_ | refine WP_cond_f rfl ?_ | (apply WPL_op0; exact rfl; first | (apply g_callf; first | (refine WO_call Try.func16 rfl hC rfl ?_; rintro _ _ ⟨rfl, rfl⟩)) | (apply g_box; refine WO_box rfl ?_; intro _) | (apply g_alloc; refine WO_alloc ?_; intro _)) | (refine WPL_case rfl rfl (fun hb => ?_) (fun hb => ?_) <;> (repeat (first | replace hb := dec_t hb | replace hb := dec_f hb)) <;> (try (exfalso; first | omega))) | (refine WP_cond rfl (fun hb => ?_) (fun hb => ?_) <;> (repeat (first | replace hb := dec_t hb | replace hb := dec_f hb)) <;> (try (exfalso; first | omega)))))
  all_goals (refine ⟨?_⟩)
  all_goals (rename_i b1 b2 _)
  all_goals (try rw [show decide (left < (pend.length : Int)) = false from decide_eq_false (by omega)])
  all_goals (refine WP_cutR 7 (fun z : Nat × Nat × Nat => ([(1, ex (.pointer (some ⟨b1, 0, none⟩))), (2, ex (.pointer (some ⟨b2, 0, none⟩))), (4, exI .i64 pend.length), (5, exB false), (6, ex (.pointer (some ⟨z.1, 0, none⟩)))], [row z.1 25 4 [ex (.slice (some ⟨z.2.1, 0, none⟩) secs.length z.2.2), ex (.slice none 0 0), exI .i64 left, exB false], row z.2.1 35 (z.2.2 * 1) (secs.flatMap (slV eByte)), row b2 25 4 [ex (.slice none 0 0), ex (.slice none 0 0), exI .i64 0, exB false], row b1 25 4 [isl (eSl eByte) secs, isl eWr pend, exI .i64 left, exB false]])) (fun z => secs.length ≤ z.2.2 ∧ z.2.2 ≤ maxLen) ?_ fun z hz => ?_)
  ·
    (refine WP_drawl 8 rfl ?_)
    (repeat' (first | (refine WPY_vv (k := 0) rfl (by omega) ?_; intro _ _ hv _ _; subst hv) | (refine WPY_vv (k := 1) rfl (by omega) ?_; intro _ _ hv _ _; subst hv) | refine WPY_done (by decide +kernel) ?_ | (apply WPY_pure 1 rfl (by decide +kernel) rfl (by repeat (first | exact np_ret)) guard_none) | (apply WPY_take 2 rfl (by decide +kernel) rfl (by decide +kernel) (by repeat (first | exact np_ret)) guard_none) | (apply WPY_pure 4 rfl (by decide +kernel) rfl (by repeat (first | exact np_ret)) guard_none) | (apply WPY_take 5 rfl (by decide +kernel) rfl (by decide +kernel) (by repeat (first | exact np_ret)) guard_none) | (apply WPY_pure 6 rfl (by decide +kernel) rfl (by repeat (first | exact np_ret)) guard_none) | (refine WPY_one (H' := feet []) 8 (by decide +kernel) rfl guard_none (fun h => absurd h (by decide)) ?_) | (refine WPY_one 7 (by decide +kernel) rfl guard_none (fun _ _ h => h) ?_) | (refine WPY_one 0 (by decide +kernel) rfl guard_none (fun _ _ h => h) ?_) | (refine WPY_one 3 (by decide +kernel) rfl guard_none (fun _ _ h => h) ?_) | (refine WPY_two 0 7 (by decide +kernel) rfl guard_none (fun _ _ h => h) rfl guard_none (fun _ _ h => h) ?_ ?_) | (refine WPY_two 3 7 (by decide +kernel) rfl guard_none (fun _ _ h => h) rfl guard_none (fun _ _ h => h) ?_ ?_) | (apply g_alloc; refine WO_alloc ?_; intro _) | (apply g_store; first | refine WO_store (k := 0) (l0 := []) rfl rfl rfl ?_ | refine WO_store (k := 1) (l0 := []) rfl rfl rfl ?_) | (apply g_append; (first | (refine WO_append_row (k := 0) (l0 := _) rfl rfl rfl rfl (by first | exact Src_isl rfl) rfl ?_ (hH := List.Sublist.refl _)) | (refine WO_append_row (k := 0) (l0 := _) rfl rfl rfl rfl (by first | exact Src_isl rfl) rfl ?_ (hH := List.sublist_cons_self _ _)) | (refine WO_append_row (k := 1) (l0 := _) rfl rfl rfl rfl (by first | exact Src_isl rfl) rfl ?_ (hH := List.sublist_cons_self _ _))); intro _) | (apply g_bslice; (first | refine WO_bslice0 rfl ?_); intro _) | (apply blt_h; exact rfl) | (first | (apply g_load; first | exact WT_load (k := 1) rfl rfl rfl rfl) | (apply g_fld; first | exact WT_field rfl rfl rfl) | (apply g_build; first | exact WT_build2 rfl rfl (by repeat (first | exact PartsO.nil | (apply PartsO.cons; exact rfl; exact inferInstance; exact rfl; exact rfl)))))))
    all_goals first | (refine cut_here (_, _, _) ?_ (Leads_then (LeadsS_vec_row (k := 1) rfl) (Leads_env (by repeat (first | exact sub_nil | refine sub_cons rfl ?_)) (List.Sublist.refl _))); exact ⟨by dsimp only; omega, by assumption⟩) | (refine cut_here (_, _, _) ?_ (Leads_then (LeadsS_vec_row (k := 0) rfl) (Leads.trans (Leads_perm (List.Perm.swap _ _ _)) (Leads_env (by repeat (first | exact sub_nil | refine sub_cons rfl ?_)) (List.Sublist.refl _)))); exact ⟨by dsimp only; omega, by assumption⟩) | trace_state
  ·
    obtain ⟨b6, bb, cc⟩ := z
    obtain ⟨hz1, hz2⟩ := hz
    dsimp only at hz1 hz2 ⊢
    rw [flat_slV]
    (repeat' (first | refine WP_seq ?_ | refine WP_region ?_ | refine WPL_nil ?_ | (apply WPL_t; (first | exact WT_assign rfl); exact rfl) | refine WP_block ?_))
    refine WP_loop (fun k : Nat => ([(1, ex (.pointer (some ⟨b1, 0, none⟩))), (2, ex (.pointer (some ⟨b2, 0, none⟩))), (4, exI .i64 pend.length), (5, exB false), (6, ex (.pointer (some ⟨b6, 0, none⟩))), (7, exI .i64 k)], [row b6 25 4 [ex (.slice (some ⟨bb, 0, none⟩) secs.length cc), ex (.slice none 0 0), exI .i64 left, exB false], row bb 35 (cc * 1) ((performF secs (pend.take k)).map (isl eByte)), row b2 25 4 [ex (.slice none 0 0), ex (.slice none 0 0), exI .i64 0, exB false], row b1 25 4 [isl (eSl eByte) secs, isl eWr pend, exI .i64 left, exB false]])) (fun k => k ≤ pend.length) (fun k => pend.length - k) 0 ?_ (Nat.zero_le _) fun k hk => ?_
    · dsimp only
      rw [show performF secs (pend.take 0) = secs by unfold performF; rfl]
      exact Leads_env (by repeat (first | exact sub_nil | refine sub_cons rfl ?_)) (List.Sublist.refl _)
    have hpk2 : ∀ (h : k < pend.length), (0 ≤ pend[k].at_ ∧ pend[k].at_ < (secs.length : Int)) ∧ pend[k].data.length = 128 := fun h => hpk k h
    have hpl2 := hpl (pend.take k)
    by_cases hlt : k < pend.length
    · obtain ⟨⟨g1, g2⟩, g3⟩ := hpk2 (by omega)
      have hst := performF_step secs pend k (by omega)
      (repeat' (first | refine WP_seq ?_ | refine WP_region ?_ | refine WPL_nil ?_ | (apply WPL_t; (first | exact WT_move rfl | (apply g_bin; first | exact WT_lss rfl rfl)); exact rfl) | refine WP_block ?_ | refine WP_skip ?_ | (refine WP_cond rfl (fun hb => ?_) (fun hb => ?_) <;> (repeat (first | replace hb := dec_t hb | replace hb := dec_f hb)) <;> (try (exfalso; first | omega)))))
      (refine WP_drawl 15 rfl ?_)
      all_goals ((apply WPY_pure 0 rfl (by decide +kernel) rfl (by repeat (first | exact np_ret)) guard_none; (first | (apply g_fld; first | exact WT_field rfl rfl rfl)); exact rfl))
      all_goals ((apply WPY_take 1 rfl (by decide +kernel) rfl (by decide +kernel) (by repeat (first | exact np_ret)) guard_none; (first | (apply g_load; first | exact WT_load (k := 0) rfl rfl rfl rfl)); exact rfl))
      all_goals ((apply WPY_pure 2 rfl (by decide +kernel) rfl (by repeat (first | exact np_ret)) guard_none; (first | (apply g_fld; first | exact WT_field rfl rfl rfl)); exact rfl))
      all_goals ((apply WPY_take 3 rfl (by decide +kernel) rfl (by decide +kernel) (by repeat (first | exact np_ret)) guard_none; (first | (apply g_load; first | exact WT_load (k := 3) rfl rfl rfl rfl)); exact rfl))
      all_goals ((apply WPY_pure 4 rfl (by decide +kernel) rfl (by repeat (first | exact np_ret)) guard_none; (first | exact WT_move rfl); exact rfl))
      all_goals ((apply WPY_pure 5 rfl (by decide +kernel) rfl (by repeat (first | exact np_ret)) guard_none; (first | (apply g_index; first | exact WT_indexW rfl rfl rfl)); exact rfl))
      all_goals ((apply WPY_pure 6 rfl (by decide +kernel) rfl (by repeat (first | exact np_ret)) guard_none; (first | (apply g_fld; first | exact WT_fieldf rfl rfl rfl)); exact rfl))
      all_goals ((apply WPY_take 7 rfl (by decide +kernel) rfl (by decide +kernel) (by repeat (first | exact np_ret)) guard_none; (first | (apply g_load; first | exact WT_loadf rfl rfl)); exact rfl))
      all_goals ((apply WPY_pure 8 rfl (by decide +kernel) rfl (by repeat (first | exact np_ret)) guard_none; (first | (apply g_fld; first | exact WT_field rfl rfl rfl)); exact rfl))
      all_goals ((apply WPY_take 9 rfl (by decide +kernel) rfl (by decide +kernel) (by repeat (first | exact np_ret)) guard_none; (first | (apply g_load; first | exact WT_load (k := 3) rfl rfl rfl rfl)); exact rfl))
      all_goals ((apply WPY_pure 10 rfl (by decide +kernel) rfl (by repeat (first | exact np_ret)) guard_none; (first | exact WT_move rfl); exact rfl))
      all_goals ((apply WPY_pure 11 rfl (by decide +kernel) rfl (by repeat (first | exact np_ret)) guard_none; (first | (apply g_index; first | exact WT_indexW rfl rfl rfl)); exact rfl))
      all_goals ((apply WPY_pure 12 rfl (by decide +kernel) rfl (by repeat (first | exact np_ret)) guard_none; (first | (apply g_fld; first | exact WT_fieldf rfl rfl rfl)); exact rfl))
      all_goals ((apply WPY_take 13 rfl (by decide +kernel) rfl (by decide +kernel) (by repeat (first | exact np_ret)) guard_none; (first | (apply g_load; first | exact WT_loadf rfl rfl)); exact rfl))
      all_goals ((apply WPY_pure 14 rfl (by decide +kernel) rfl (by repeat (first | exact np_ret)) guard_none; (first | (apply g_index; first | exact WT_indexoz rfl rfl rfl)); exact rfl))
      all_goals (first | (apply WPY_one 15; exact (by decide +kernel); exact rfl; exact guard_none; exact (fun h => absurd h (by decide)); first | (apply g_store; first | refine WO_store (k := 1) (l0 := []) rfl rfl rfl ?_)))
      all_goals (refine WPY_done (by decide +kernel) ?_)
      (repeat' (first | refine WP_region ?_ | refine WPL_nil ?_ | (apply WPL_t; (first | exact WT_move rfl | exact WT_assign rfl | (apply g_bin; first | exact WT_add rfl rfl)); exact rfl)))
      refine ⟨k + 1, by omega, by omega, ?_⟩
      dsimp only
      rw [hst, ← putC_set (isl eByte) _ _ _ (by omega)]
      have hz0 : 0 + pend[k].at_.toNat * 1 = pend[k].at_.toNat := by omega
      rw [hz0]
      exact Leads_env (by repeat (first | exact sub_nil | refine sub_cons rfl ?_)) (List.Sublist.refl _)
    · have hk9 : k = pend.length := by omega
      subst hk9
      (repeat' (first | refine WP_seq ?_ | refine WP_region ?_ | refine WPL_nil ?_ | (apply WPL_t; (first | exact WT_move rfl | exact WT_assign rfl | (apply g_load; first | exact WT_load (k := 0) rfl rfl rfl rfl | exact WT_loada2 (k := 0) rfl rfl rfl) | (apply g_fld; first | exact WT_field rfl rfl rfl) | (apply g_bin; first | exact WT_lss rfl rfl | exact WT_geq rfl rfl | exact WT_sub rfl rfl)); exact rfl) | refine WP_skip ?_ | refine WP_ret ?_ | refine WP_exit ?_ | refine WP_cond_f rfl ?_ | (apply WPL_op0; exact rfl; first | (apply g_store; first | refine WO_store (k := 0) (l0 := []) rfl rfl rfl ?_ | refine WO_store (k := 2) (l0 := []) rfl rfl rfl ?_)) | (refine WP_cond rfl (fun hb => ?_) (fun hb => ?_) <;> (repeat (first | replace hb := dec_t hb | replace hb := dec_f hb)) <;> (try (exfalso; first | omega)))))
      rw [List.take_length]
      apply retP_leads
      · exact Leads_then (LeadsS_row_vec (k := 1) (n := secs.length) (c := cc) (sz := 1) rfl rfl (by rw [List.length_map, hpl]; omega) (by decide) hz2) (Leads_fcell (j := 1) (k := 1) (i := 0) (E := eSl eByte) (fs := fun b => [isl eByte b]) (performF secs pend) rfl rfl (List.map_eq_flatMap) (hpl pend) rfl rfl)
      (refine ⟨.inr rfl, retw (loc' := []) (by first | exact ret2 rfl (.cella (k := 1) rfl rfl rfl rfl inferInstance rfl) (.tmp rfl) (List.nil_sublist _) ⟨rfl, rfl⟩) ?_ ⟨rfl, rfl⟩⟩)
      exact Ims.tup (.cons (Ims.agg (.cons (.refl _) (.cons Im.nil (.cons (.refl _) (.cons (.refl _) .nil))))) (.cons (.refl _) .nil))

set_option maxHeartbeats 4000000 in
set_option maxRecDepth 100000 in
theorem rsync_neg (secs : List Bytes) (pend : List Wr) (left : Int) (hL : left < 0) (dok : Disk.ok ⟨secs, pend, left, false⟩ = true) : FnC Try.prog 24 [agg [isl (eSl eByte) secs, isl eWr pend, exI .i64 left, exB false]] [] (fun p loc => p = tup [dsk ⟨performF secs pend, [], left, false⟩, exI .i64 0] ∧ loc = []) := by
  refine FnC_enter Try.func24 rfl Try.ntmps24 rfl fun w0 F0 out => ?_
  have hC := rchk_frs ⟨secs, pend, left, false⟩
  rw [show checkF ⟨secs, pend, left, false⟩ = 0 by unfold checkF; rw [if_pos dok]] at hC
  obtain ⟨s1, s2, s3, s4, s5, s6, s7⟩ := Disk.ok_out dok
  have hpk := pend_ok dok
  have hsk := secs_ok dok
  dsimp only at s1 s2 s3 s4 s5 hpk hsk
  have hpl := performF_length secs
  (repeat' (first | (apply cut_at 7; refine Stop.out ?_) | refine WP_seq ?_ | refine WP_region ?_ | refine WPL_nil ?_ | (apply WPL_t; (first | exact WT_move rfl | exact WT_assign rfl | exact WT_pick (b := false) rfl (fun e => by cases e) (fun _ => rfl) | (apply g_load; first | exact WT_load (k := 1) rfl rfl rfl rfl | exact WT_loada2 (k := 1) rfl rfl rfl) | (apply g_fld; first | exact WT_field rfl rfl rfl) | (apply g_bin; first | exact WT_neq rfl rfl | exact WT_geq rfl rfl) | (apply g_call; first | exact WT_len rfl rfl)); exact rfl) | (refine WPL_off rfl rfl rfl rfl rfl ?_) | (apply WPL_gt; exact rfl; exact rfl; exact rfl; (first | (apply g_load; first | exact WT_load (k := 1) rfl rfl rfl rfl) | (apply g_fld; first | exact WT_field rfl rfl rfl)); exact rfl) | refine WP_skip ?_ | refine WP_cond_f rfl ?_ | (apply WPL_op0; exact rfl; first | (apply g_callf; first | (refine WO_call Try.func16 rfl hC rfl ?_; rintro _ _ ⟨rfl, rfl⟩)) | (apply g_box; refine WO_box rfl ?_; intro _) | (apply g_alloc; refine WO_alloc ?_; intro _)) | (refine WPL_case rfl rfl (fun hb => ?_) (fun hb => ?_) <;> (repeat (first | replace hb := dec_t hb | replace hb := dec_f hb)) <;> (try (exfalso; first | omega)))))
  all_goals (refine ⟨?_⟩)
  all_goals (rename_i b1 b2)
  all_goals (try rw [show decide (left < (pend.length : Int)) = false from decide_eq_false (by omega)])
  all_goals (refine WP_cutR 7 (fun z : Nat × Nat × Nat => ([(1, ex (.pointer (some ⟨b1, 0, none⟩))), (2, ex (.pointer (some ⟨b2, 0, none⟩))), (4, exI .i64 pend.length), (5, exB false), (6, ex (.pointer (some ⟨z.1, 0, none⟩)))], [row z.1 25 4 [ex (.slice (some ⟨z.2.1, 0, none⟩) secs.length z.2.2), ex (.slice none 0 0), exI .i64 left, exB false], row z.2.1 35 (z.2.2 * 1) (secs.flatMap (slV eByte)), row b2 25 4 [ex (.slice none 0 0), ex (.slice none 0 0), exI .i64 0, exB false], row b1 25 4 [isl (eSl eByte) secs, isl eWr pend, exI .i64 left, exB false]])) (fun z => secs.length ≤ z.2.2 ∧ z.2.2 ≤ maxLen) ?_ fun z hz => ?_)
  ·
    (refine WP_drawl 8 rfl ?_)
    (repeat' (first | (refine WPY_vv (k := 0) rfl (by omega) ?_; intro _ _ hv _ _; subst hv) | (refine WPY_vv (k := 1) rfl (by omega) ?_; intro _ _ hv _ _; subst hv) | refine WPY_done (by decide +kernel) ?_ | (apply WPY_pure 1 rfl (by decide +kernel) rfl (by repeat (first | exact np_ret)) guard_none) | (apply WPY_take 2 rfl (by decide +kernel) rfl (by decide +kernel) (by repeat (first | exact np_ret)) guard_none) | (apply WPY_pure 4 rfl (by decide +kernel) rfl (by repeat (first | exact np_ret)) guard_none) | (apply WPY_take 5 rfl (by decide +kernel) rfl (by decide +kernel) (by repeat (first | exact np_ret)) guard_none) | (apply WPY_pure 6 rfl (by decide +kernel) rfl (by repeat (first | exact np_ret)) guard_none) | (refine WPY_one (H' := feet []) 8 (by decide +kernel) rfl guard_none (fun h => absurd h (by decide)) ?_) | (refine WPY_one 7 (by decide +kernel) rfl guard_none (fun _ _ h => h) ?_) | (refine WPY_one 0 (by decide +kernel) rfl guard_none (fun _ _ h => h) ?_) | (refine WPY_one 3 (by decide +kernel) rfl guard_none (fun _ _ h => h) ?_) | (refine WPY_two 0 7 (by decide +kernel) rfl guard_none (fun _ _ h => h) rfl guard_none (fun _ _ h => h) ?_ ?_) | (refine WPY_two 3 7 (by decide +kernel) rfl guard_none (fun _ _ h => h) rfl guard_none (fun _ _ h => h) ?_ ?_) | (apply g_alloc; refine WO_alloc ?_; intro _) | (apply g_store; first | refine WO_store (k := 0) (l0 := []) rfl rfl rfl ?_ | refine WO_store (k := 1) (l0 := []) rfl rfl rfl ?_) | (apply g_append; (first | (refine WO_append_row (k := 0) (l0 := _) rfl rfl rfl rfl (by first | exact Src_isl rfl) rfl ?_ (hH := List.Sublist.refl _)) | (refine WO_append_row (k := 0) (l0 := _) rfl rfl rfl rfl (by first | exact Src_isl rfl) rfl ?_ (hH := List.sublist_cons_self _ _)) | (refine WO_append_row (k := 1) (l0 := _) rfl rfl rfl rfl (by first | exact Src_isl rfl) rfl ?_ (hH := List.sublist_cons_self _ _))); intro _) | (apply g_bslice; (first | refine WO_bslice0 rfl ?_); intro _) | (apply blt_h; exact rfl) | (first | (apply g_load; first | exact WT_load (k := 1) rfl rfl rfl rfl) | (apply g_fld; first | exact WT_field rfl rfl rfl) | (apply g_build; first | exact WT_build2 rfl rfl (by repeat (first | exact PartsO.nil | (apply PartsO.cons; exact rfl; exact inferInstance; exact rfl; exact rfl)))))))
    all_goals first | (refine cut_here (_, _, _) ?_ (Leads_then (LeadsS_vec_row (k := 1) rfl) (Leads_env (by repeat (first | exact sub_nil | refine sub_cons rfl ?_)) (List.Sublist.refl _))); exact ⟨by dsimp only; omega, by assumption⟩) | (refine cut_here (_, _, _) ?_ (Leads_then (LeadsS_vec_row (k := 0) rfl) (Leads.trans (Leads_perm (List.Perm.swap _ _ _)) (Leads_env (by repeat (first | exact sub_nil | refine sub_cons rfl ?_)) (List.Sublist.refl _)))); exact ⟨by dsimp only; omega, by assumption⟩) | trace_state
  ·
    obtain ⟨b6, bb, cc⟩ := z
    obtain ⟨hz1, hz2⟩ := hz
    dsimp only at hz1 hz2 ⊢
    rw [flat_slV]
    (repeat' (first | refine WP_seq ?_ | refine WP_region ?_ | refine WPL_nil ?_ | (apply WPL_t; (first | exact WT_assign rfl); exact rfl) | refine WP_block ?_))
    refine WP_loop (fun k : Nat => ([(1, ex (.pointer (some ⟨b1, 0, none⟩))), (2, ex (.pointer (some ⟨b2, 0, none⟩))), (4, exI .i64 pend.length), (5, exB false), (6, ex (.pointer (some ⟨b6, 0, none⟩))), (7, exI .i64 k)], [row b6 25 4 [ex (.slice (some ⟨bb, 0, none⟩) secs.length cc), ex (.slice none 0 0), exI .i64 left, exB false], row bb 35 (cc * 1) ((performF secs (pend.take k)).map (isl eByte)), row b2 25 4 [ex (.slice none 0 0), ex (.slice none 0 0), exI .i64 0, exB false], row b1 25 4 [isl (eSl eByte) secs, isl eWr pend, exI .i64 left, exB false]])) (fun k => k ≤ pend.length) (fun k => pend.length - k) 0 ?_ (Nat.zero_le _) fun k hk => ?_
    · dsimp only
      rw [show performF secs (pend.take 0) = secs by unfold performF; rfl]
      exact Leads_env (by repeat (first | exact sub_nil | refine sub_cons rfl ?_)) (List.Sublist.refl _)
    have hpk2 : ∀ (h : k < pend.length), (0 ≤ pend[k].at_ ∧ pend[k].at_ < (secs.length : Int)) ∧ pend[k].data.length = 128 := fun h => hpk k h
    have hpl2 := hpl (pend.take k)
    by_cases hlt : k < pend.length
    · obtain ⟨⟨g1, g2⟩, g3⟩ := hpk2 (by omega)
      have hst := performF_step secs pend k (by omega)
      (repeat' (first | refine WP_seq ?_ | refine WP_region ?_ | refine WPL_nil ?_ | (apply WPL_t; (first | exact WT_move rfl | (apply g_bin; first | exact WT_lss rfl rfl)); exact rfl) | refine WP_block ?_ | refine WP_skip ?_ | (refine WP_cond rfl (fun hb => ?_) (fun hb => ?_) <;> (repeat (first | replace hb := dec_t hb | replace hb := dec_f hb)) <;> (try (exfalso; first | omega)))))
      (refine WP_drawl 15 rfl ?_)
      all_goals ((apply WPY_pure 0 rfl (by decide +kernel) rfl (by repeat (first | exact np_ret)) guard_none; (first | (apply g_fld; first | exact WT_field rfl rfl rfl)); exact rfl))
      all_goals ((apply WPY_take 1 rfl (by decide +kernel) rfl (by decide +kernel) (by repeat (first | exact np_ret)) guard_none; (first | (apply g_load; first | exact WT_load (k := 0) rfl rfl rfl rfl)); exact rfl))
      all_goals ((apply WPY_pure 2 rfl (by decide +kernel) rfl (by repeat (first | exact np_ret)) guard_none; (first | (apply g_fld; first | exact WT_field rfl rfl rfl)); exact rfl))
      all_goals ((apply WPY_take 3 rfl (by decide +kernel) rfl (by decide +kernel) (by repeat (first | exact np_ret)) guard_none; (first | (apply g_load; first | exact WT_load (k := 3) rfl rfl rfl rfl)); exact rfl))
      all_goals ((apply WPY_pure 4 rfl (by decide +kernel) rfl (by repeat (first | exact np_ret)) guard_none; (first | exact WT_move rfl); exact rfl))
      all_goals ((apply WPY_pure 5 rfl (by decide +kernel) rfl (by repeat (first | exact np_ret)) guard_none; (first | (apply g_index; first | exact WT_indexW rfl rfl rfl)); exact rfl))
      all_goals ((apply WPY_pure 6 rfl (by decide +kernel) rfl (by repeat (first | exact np_ret)) guard_none; (first | (apply g_fld; first | exact WT_fieldf rfl rfl rfl)); exact rfl))
      all_goals ((apply WPY_take 7 rfl (by decide +kernel) rfl (by decide +kernel) (by repeat (first | exact np_ret)) guard_none; (first | (apply g_load; first | exact WT_loadf rfl rfl)); exact rfl))
      all_goals ((apply WPY_pure 8 rfl (by decide +kernel) rfl (by repeat (first | exact np_ret)) guard_none; (first | (apply g_fld; first | exact WT_field rfl rfl rfl)); exact rfl))
      all_goals ((apply WPY_take 9 rfl (by decide +kernel) rfl (by decide +kernel) (by repeat (first | exact np_ret)) guard_none; (first | (apply g_load; first | exact WT_load (k := 3) rfl rfl rfl rfl)); exact rfl))
      all_goals ((apply WPY_pure 10 rfl (by decide +kernel) rfl (by repeat (first | exact np_ret)) guard_none; (first | exact WT_move rfl); exact rfl))
      all_goals ((apply WPY_pure 11 rfl (by decide +kernel) rfl (by repeat (first | exact np_ret)) guard_none; (first | (apply g_index; first | exact WT_indexW rfl rfl rfl)); exact rfl))
      all_goals ((apply WPY_pure 12 rfl (by decide +kernel) rfl (by repeat (first | exact np_ret)) guard_none; (first | (apply g_fld; first | exact WT_fieldf rfl rfl rfl)); exact rfl))
      all_goals ((apply WPY_take 13 rfl (by decide +kernel) rfl (by decide +kernel) (by repeat (first | exact np_ret)) guard_none; (first | (apply g_load; first | exact WT_loadf rfl rfl)); exact rfl))
      all_goals ((apply WPY_pure 14 rfl (by decide +kernel) rfl (by repeat (first | exact np_ret)) guard_none; (first | (apply g_index; first | exact WT_indexoz rfl rfl rfl)); exact rfl))
      all_goals (first | (apply WPY_one 15; exact (by decide +kernel); exact rfl; exact guard_none; exact (fun h => absurd h (by decide)); first | (apply g_store; first | refine WO_store (k := 1) (l0 := []) rfl rfl rfl ?_)))
      all_goals (refine WPY_done (by decide +kernel) ?_)
      (repeat' (first | refine WP_region ?_ | refine WPL_nil ?_ | (apply WPL_t; (first | exact WT_move rfl | exact WT_assign rfl | (apply g_bin; first | exact WT_add rfl rfl)); exact rfl)))
      refine ⟨k + 1, by omega, by omega, ?_⟩
      dsimp only
      rw [hst, ← putC_set (isl eByte) _ _ _ (by omega)]
      have hz0 : 0 + pend[k].at_.toNat * 1 = pend[k].at_.toNat := by omega
      rw [hz0]
      exact Leads_env (by repeat (first | exact sub_nil | refine sub_cons rfl ?_)) (List.Sublist.refl _)
    · have hk9 : k = pend.length := by omega
      subst hk9
      (repeat' (first | refine WP_seq ?_ | refine WP_region ?_ | refine WPL_nil ?_ | (apply WPL_t; (first | exact WT_move rfl | exact WT_assign rfl | (apply g_load; first | exact WT_load (k := 0) rfl rfl rfl rfl | exact WT_loada2 (k := 0) rfl rfl rfl) | (apply g_fld; first | exact WT_field rfl rfl rfl) | (apply g_bin; first | exact WT_lss rfl rfl | exact WT_geq rfl rfl)); exact rfl) | refine WP_skip ?_ | refine WP_ret ?_ | refine WP_exit ?_ | refine WP_cond_f rfl ?_ | (apply WPL_op0; exact rfl; first | (apply g_store; first | refine WO_store (k := 2) (l0 := []) rfl rfl rfl ?_)) | (refine WP_cond rfl (fun hb => ?_) (fun hb => ?_) <;> (repeat (first | replace hb := dec_t hb | replace hb := dec_f hb)) <;> (try (exfalso; first | omega)))))
      rw [List.take_length]
      apply retP_leads
      · exact Leads_then (LeadsS_row_vec (k := 1) (n := secs.length) (c := cc) (sz := 1) rfl rfl (by rw [List.length_map, hpl]; omega) (by decide) hz2) (Leads_fcell (j := 1) (k := 1) (i := 0) (E := eSl eByte) (fs := fun b => [isl eByte b]) (performF secs pend) rfl rfl (List.map_eq_flatMap) (hpl pend) rfl rfl)
      (refine ⟨.inr rfl, retw (loc' := []) (by first | exact ret2 rfl (.cella (k := 1) rfl rfl rfl rfl inferInstance rfl) (.tmp rfl) (List.nil_sublist _) ⟨rfl, rfl⟩) ?_ ⟨rfl, rfl⟩⟩)
      exact Ims.tup (.cons (Ims.agg (.cons (.refl _) (.cons Im.nil (.cons (.refl _) (.cons (.refl _) .nil))))) (.cons (.refl _) .nil))

end Go.Proofs.Ytckcdokfhdckhaa
