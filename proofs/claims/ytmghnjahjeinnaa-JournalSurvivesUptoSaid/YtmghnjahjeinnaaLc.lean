/- The reference Sync of journals, where it goes on. -/
import Derived.Test.YtmghnjahjeinnaaLb
namespace Go.Proofs.Ytmghnjahjeinnaa
open Go Go.RowKit Go.Kx Go.Fr
theorem piece_eq (b : List UInt8) (k : Nat) : (b.take (min b.length ((k + 1) * 112))).drop (k * 112) = (b.drop (k * 112)).take 112 := by
  rw [take_min, List.drop_take, show (k + 1) * 112 - k * 112 = 112 by omega]
theorem drop_step (b : List UInt8) (k : Nat) : (b.drop (k * 112)).drop 112 = b.drop ((k + 1) * 112) := by
  rw [List.drop_drop]; congr 1; omega
attribute [local irreducible] recordsR genF getF usedN allF wsF syncF encF secsN Disk.ok

set_option maxHeartbeats 4000000 in
set_option maxRecDepth 100000 in
theorem rjsync_good (o : List (List UInt8)) (s : Nat) (D : Disk) (ho : o.length < 2 ^ 20) (hall : ∀ b ∈ o, b.length < 2 ^ 40) (hDI : DIn D) (hok : jOK o D.secs.length s) (dok : Disk.ok D = true) (hst : D.stopped = false) (hp : D.pend.length = 0) : FnC Try.prog 22 [jr o D.secs.length s, dsk D] [] (JPost (jsyncF o D.secs.length s D)) := by
  refine FnC_enter Try.func22 rfl Try.ntmps22 rfl fun w0 F0 out => ?_
  have hC := jcheckR_any o D.secs.length s ho hall
  rw [show jchk o D.secs.length s = 0 from if_pos hok] at hC
  have hD := rchk_fr D
  rw [show checkF D = 0 by unfold checkF; rw [if_pos dok]] at hD
  obtain ⟨j1, j2, j3, j4, j5⟩ := id hok
  obtain ⟨k1, k2⟩ := ok_secs dok
  have hgl := genF_le D.secs k2
  have hG := generation_any D.secs (by omega) k2
  have hR := records_any D.secs (by omega) k2
  have hrl : (recordsR D.secs).length < 2 ^ 62 := by
    rw [recordsR_pairs, List.length_map]
    have := pairsR_len D.secs (D.secs.length + 1) 0 0
    unfold pairsF; omega
  have hE := sameRec_any (recordsR D.secs) (o.take s) hrl (by rw [List.length_take]; omega)
  have eJ := jsyncF_good o s D hok dok hst hp
  have hU := usedR_any (o.take s) (by rw [List.length_take]; omega) (fun b hb => hall b (List.mem_of_mem_take hb))
  (repeat' (first | (apply cut_at 12; refine Stop.out ?_) | refine WP_seq ?_ | refine WP_region ?_ | refine WPL_nil ?_ | (apply WPL_t; (first | exact WT_move rfl | exact WT_assign rfl | exact WT_pick (b := false) rfl (fun e => by cases e) (fun _ => rfl) | (apply g_load; first | exact WT_load (k := 2) rfl rfl rfl rfl | exact WT_load (k := 3) rfl rfl rfl rfl | exact WT_loada2 (k := 2) rfl rfl rfl | exact WT_loada2 (k := 3) rfl rfl rfl) | (apply g_fld; first | exact WT_field rfl rfl rfl) | (apply g_bin; first | exact WT_neq rfl rfl) | (apply g_call; first | exact WT_len rfl rfl) | (apply g_build; first | exact WT_build2 rfl rfl (by repeat (first | exact PartsO.nil)))); exact rfl) | (apply WPL_gt; exact rfl; exact rfl; exact rfl; (first | (apply g_load; first | exact WT_load (k := 2) rfl rfl rfl rfl) | (apply g_fld; first | exact WT_field rfl rfl rfl) | (apply g_bin; first | exact WT_gtr rfl rfl) | (apply g_call; first | exact WT_len rfl rfl)); exact rfl) | refine WP_skip ?_ | refine WP_ret ?_ | refine WP_cond_f rfl ?_ | (apply WPL_op0; exact rfl; first | (apply g_callf; first | (refine WO_call Try.func18 rfl hC rfl ?_; rintro _ _ ⟨rfl, rfl⟩) | (refine WO_call Try.func33 rfl hD rfl ?_; rintro _ _ ⟨rfl, rfl⟩) | (refine WO_call Try.func45 rfl hG rfl ?_; rintro _ _ ⟨rfl, rfl⟩)) | (apply g_box; refine WO_box rfl ?_; intro _) | (apply g_alloc; refine WO_alloc ?_; intro _) | (apply g_store; first | refine WO_store (k := 0) (l0 := []) rfl rfl rfl ?_ | refine WO_store (k := 1) (l0 := []) rfl rfl rfl ?_)) | (refine WPL_case rfl rfl (fun hb => ?_) (fun hb => ?_) <;> (repeat (first | replace hb := dec_t hb | replace hb := dec_f hb | replace hb := not_t hb | replace hb := not_f hb)) <;> (try (exfalso; first | omega))) | (refine WP_cond rfl (fun hb => ?_) (fun hb => ?_) <;> (repeat (first | replace hb := dec_t hb | replace hb := dec_f hb)) <;> (try (exfalso; first | omega)))))
  all_goals (try (exfalso; simp_all; done))
  all_goals (try (exfalso; omega))
  refine ⟨?_⟩
  rename_i b2 b3 b4 b5 _ _
  refine WP_seq ?_
  (refine WP_drawl 14 rfl ?_)
  all_goals ((apply WPY_pure 0 rfl (by decide +kernel) rfl (by repeat (first | exact np_ret)) guard_none; (first | (apply g_fld; first | exact WT_field rfl rfl rfl)); exact rfl))
  all_goals ((apply WPY_take 1 rfl (by decide +kernel) rfl (by decide +kernel) (by repeat (first | exact np_ret)) guard_none; (first | (apply g_load; first | exact WT_load (k := 2) rfl rfl rfl rfl)); exact rfl))
  all_goals ((apply WPY_pure 3 rfl (by decide +kernel) rfl (by repeat (first | exact np_ret)) guard_none; (first | (apply g_fld; first | exact WT_field rfl rfl rfl)); exact rfl))
  all_goals ((apply WPY_take 4 rfl (by decide +kernel) rfl (by decide +kernel) (by repeat (first | exact np_ret)) guard_none; (first | (apply g_load; first | exact WT_load (k := 3) rfl rfl rfl rfl)); exact rfl))
  all_goals ((apply WPY_pure 5 rfl (by decide +kernel) rfl (by repeat (first | exact np_ret)) guard_none; (first | (apply g_fld; first | exact WT_field rfl rfl rfl)); exact rfl))
  all_goals ((apply WPY_take 6 rfl (by decide +kernel) rfl (by decide +kernel) (by repeat (first | exact np_ret)) guard_none; (first | (apply g_load; first | exact WT_load (k := 3) rfl rfl rfl rfl)); exact rfl))
  all_goals ((apply WPY_pure 7 rfl (by decide +kernel) rfl (by repeat (first | exact np_ret)) guard_none; (first | (apply g_slice; first | exact WT_slch rfl rfl rfl)); exact rfl))
  all_goals (first | (apply WPY_one 2; exact (by decide +kernel); exact rfl; exact guard_none; exact (fun _ _ h => h); first | (apply g_callf; first | (refine WO_call Try.func34 rfl hR rfl ?_; rintro _ _ ⟨rfl, rfl⟩))))
  all_goals (first | (apply WPY_one 8; exact (by decide +kernel); exact rfl; exact guard_none; exact (fun _ _ h => h); first | (apply g_callf; first | (refine WO_call Try.func24 rfl hE rfl ?_; rintro _ _ ⟨rfl, rfl⟩))))
  all_goals ((apply WPY_pure 9 rfl (by decide +kernel) rfl (by repeat (first | exact np_ret)) guard_none; (first | (apply g_un; first | exact WT_not rfl)); exact rfl))
  all_goals ((apply WPY_pure 10 rfl (by decide +kernel) rfl (by repeat (first | exact np_ret)) guard_none; (first | exact WT_move rfl); exact rfl))
  all_goals (first | (refine WPY_case 63 rfl (fun hb => ?_) (fun hb => ?_) <;> (repeat (first | replace hb := dec_t hb | replace hb := dec_f hb | replace hb := not_t hb | replace hb := not_f hb)) <;> (try (exfalso; first | (cases hb; done) | omega))) | skip)
  all_goals (first | (refine WPY_off 11 rfl (by decide +kernel) rfl (by repeat (first | exact np_ret)) rfl rfl rfl rfl rfl ?_) | (apply WPY_pure 11 rfl (by decide +kernel) rfl (by repeat (first | exact np_ret)) (guard_some rfl rfl rfl); (first | exact WT_move rfl); exact rfl))
  all_goals (first | (refine WPY_off 12 rfl (by decide +kernel) rfl (by repeat (first | exact np_ret)) rfl rfl rfl rfl rfl ?_) | (apply WPY_pure 12 rfl (by decide +kernel) rfl (by repeat (first | exact np_ret)) (guard_some rfl rfl rfl); (first | (apply g_bin; first | exact WT_gtr rfl rfl)); exact rfl))
  all_goals ((apply WPY_pure 13 rfl (by decide +kernel) rfl (by repeat (first | exact np_ret)) guard_none; (first | exact WT_pick (b := true) rfl (fun _ => rfl) (fun e => by cases e) | exact WT_pick (b := false) rfl (fun e => by cases e) (fun _ => rfl)); exact rfl))
  all_goals (refine WPY_done (by decide +kernel) ?_)
  all_goals ((repeat' (first | refine WP_seq ?_ | refine WP_region ?_ | refine WPL_nil ?_ | (apply WPL_t; (first | exact WT_assign rfl | (apply g_load; first | exact WT_load (k := 3) rfl rfl rfl rfl) | (apply g_fld; first | exact WT_field rfl rfl rfl) | (apply g_bin; first | exact WT_eql rfl rfl) | (apply g_slice; first | exact WT_slch rfl rfl rfl) | (apply g_call; first | exact WT_len rfl rfl) | (apply g_build; first | exact WT_build2 rfl rfl (by repeat (first | exact PartsO.nil)))); exact rfl) | refine WP_block ?_ | refine WP_skip ?_ | refine WP_ret ?_ | refine WP_cond_t rfl ?_ | (apply WPL_op0; exact rfl; first | (apply g_callf; first | (refine WO_call Try.func40 rfl hU rfl ?_; rintro _ _ ⟨rfl, rfl⟩)) | (apply g_store; first | refine WO_store (k := 0) (l0 := []) rfl rfl rfl ?_ | refine WO_store (k := 1) (l0 := []) rfl rfl rfl ?_)) | (refine WP_cond rfl (fun hb => ?_) (fun hb => ?_) <;> (repeat (first | replace hb := dec_t hb | replace hb := dec_f hb)) <;> (try (exfalso; first | fail))))))
  · rw [if_pos (.inl (by assumption))] at eJ
    rw [eJ]
    (refine ⟨.inr rfl, retw (loc' := []) (by first | exact ret3 rfl (.cella (k := 1) rfl rfl rfl rfl inferInstance rfl) (.cella (k := 0) rfl rfl rfl rfl inferInstance rfl) (.tmp rfl) (List.nil_sublist _) ⟨rfl, rfl⟩ | exact ret3 rfl (.cella (k := 2) rfl rfl rfl rfl inferInstance rfl) (.cella (k := 1) rfl rfl rfl rfl inferInstance rfl) (.tmp rfl) (List.nil_sublist _) ⟨rfl, rfl⟩) ?_ ⟨rfl, rfl⟩⟩)
    exact im_sz _
  · rw [if_pos (.inr (by omega))] at eJ
    rw [eJ]
    (refine ⟨.inr rfl, retw (loc' := []) (by first | exact ret3 rfl (.cella (k := 1) rfl rfl rfl rfl inferInstance rfl) (.cella (k := 0) rfl rfl rfl rfl inferInstance rfl) (.tmp rfl) (List.nil_sublist _) ⟨rfl, rfl⟩ | exact ret3 rfl (.cella (k := 2) rfl rfl rfl rfl inferInstance rfl) (.cella (k := 1) rfl rfl rfl rfl inferInstance rfl) (.tmp rfl) (List.nil_sublist _) ⟨rfl, rfl⟩) ?_ ⟨rfl, rfl⟩⟩)
    exact im_sz _
  · rw [if_neg (fun h => h.elim (fun h => h (by assumption)) (fun h => absurd h (by omega)))] at eJ
    rw [if_pos (by omega)] at eJ
    rw [eJ]
    (refine WP_drawl 2 rfl ?_)
    all_goals ((apply WPY_take 0 rfl (by decide +kernel) rfl (by decide +kernel) (by repeat (first | exact np_ret)) guard_none; (first | (apply g_load; first | exact WT_loada2 (k := 3) rfl rfl rfl)); exact rfl))
    all_goals (refine WPY_two (H2 := feet []) 1 2 (by decide +kernel) rfl guard_none (fun _ _ _ => trivial) rfl guard_none (fun h => absurd h (by decide)) ?_ ?_; (apply WO_t (H := fun _ => True); (first | (apply g_load; first | exact WT_loada2 (k := 2) rfl rfl rfl)); exact rfl); (apply WPY_one 2; exact (by decide +kernel); exact rfl; exact guard_none; exact (fun h => absurd h (by decide)); (first | (apply g_store; first | refine WO_store (k := 1) (l0 := []) rfl rfl rfl ?_))); rotate_left; (first | (apply g_store; first | refine WO_store (k := 1) (l0 := []) rfl rfl rfl ?_)); (apply WPY_one 1; exact (by decide +kernel); exact rfl; exact guard_none; exact (fun _ _ _ => trivial); (apply WO_t (H := fun _ => True); (first | (apply g_load; first | exact WT_loada2 (k := 2) rfl rfl rfl)); exact rfl)))
    all_goals (first | (apply WPY_one 3; exact (by decide +kernel); exact rfl; exact guard_none; exact (fun h => absurd h (by decide)); first | (apply g_store; first | refine WO_store (k := 0) (l0 := []) rfl rfl rfl ?_)))
    all_goals (first | (apply WPY_one 4 (by decide +kernel) rfl guard_none (fun _ _ _ => trivial); apply WO_t (H := fun _ => True); (first | exact WT_assign rfl); exact rfl))
    all_goals (refine WPY_done (by decide +kernel) ?_)
    all_goals ((repeat' (first | refine WP_ret ?_)))
    all_goals ((refine ⟨.inr rfl, retw (loc' := []) (by first | exact ret3 rfl (.cella (k := 1) rfl rfl rfl rfl inferInstance rfl) (.cella (k := 0) rfl rfl rfl rfl inferInstance rfl) (.tmp rfl) (List.nil_sublist _) ⟨rfl, rfl⟩ | exact ret3 rfl (.cella (k := 2) rfl rfl rfl rfl inferInstance rfl) (.cella (k := 1) rfl rfl rfl rfl inferInstance rfl) (.tmp rfl) (List.nil_sublist _) ⟨rfl, rfl⟩) ?_ ⟨rfl, rfl⟩⟩))
    all_goals exact .refl _
  · rw [if_neg (fun h => h.elim (fun h => h (by assumption)) (fun h => absurd h (by omega)))] at eJ
    rw [if_neg (by omega)] at eJ
    rw [eJ]
    have hpe : D.pend = [] := List.eq_nil_of_length_eq_zero hp
    have dok0 : Disk.ok { D with pend := [] } = true := by rw [← hpe]; exact dok
    have hsl := (Disk.ok_out dok).2.1
    have hul : ∀ k, usedN (o.take k) ≤ usedN o := usedN_take_le o
    obtain ⟨at0, hat0⟩ : ∃ a, a = usedN (o.take s) := ⟨_, rfl⟩
    rw [← hat0]
    clear hU hE hC hD hG hR
    rw [hpe]
    refine WP_loop (fun x : Nat × Nat × List Wr => ([(2, ex (.pointer (some ⟨b2, 0, none⟩))), (3, ex (.pointer (some ⟨b3, 0, none⟩))), (4, ex (.pointer (some ⟨b4, 0, none⟩))), (5, ex (.pointer (some ⟨b5, 0, none⟩))), (9, exI .u64 (genF D.secs)), (10, exI .i64 x.2.1), (11, exI .i64 x.1)], [row b5 25 4 [ex (.slice none 0 0), ex (.slice none 0 0), exI .i64 0, exB false], row b4 29 3 [ex (.slice none 0 0), exI .i64 0, exI .i64 0], row b3 25 4 [isl (eSl eByte) D.secs, isl eWr x.2.2, exI .i64 D.left, exB D.stopped], row b2 29 3 [isl (eSl eByte) o, exI .i64 D.secs.length, exI .i64 s]])) (fun x => s ≤ x.1 ∧ x.1 ≤ o.length ∧ x.2.1 = usedN (o.take x.1) ∧ x.2.2 ++ allF (genF D.secs) (o.drop x.1) x.2.1 = allF (genF D.secs) (o.drop s) at0 ∧ Disk.ok { D with pend := x.2.2 } = true ∧ x.2.2.length + at0 = x.2.1) (fun x => o.length - x.1) (s, at0, []) ?_ ⟨Nat.le_refl _, by dsimp only; omega, hat0, rfl, dok0, Nat.zero_add _⟩ fun x hx => ?_
    · dsimp only
      exact Leads_env (by repeat (first | exact sub_nil | refine sub_cons rfl ?_)) (List.Sublist.refl _)
    obtain ⟨i, at1, ws⟩ := x
    obtain ⟨hi0, hi, hat1, hws, hwok, hwl⟩ := hx
    dsimp only at hi0 hi hat1 hws hwok hwl ⊢
    by_cases hil : i < o.length
    · have hb0 := hall _ (List.getElem_mem hil)
      have hS := sectorsR_any o[i].length (by omega)
      have hN := secsN_pos o[i].length
      have hN2 : o[i].length ≤ secsN o[i].length * 112 := by unfold secsN; omega
      have hN3 : secsN o[i].length < 2 ^ 40 := by unfold secsN; omega
      have hut := usedN_take o i hil
      have hule := hul (i + 1)
      have hdr : o.drop i = o[i] :: o.drop (i + 1) := List.drop_eq_getElem_cons hil
      rw [hdr, allF_cons] at hws
      (repeat' (first | refine WP_seq ?_ | refine WP_region ?_ | refine WPL_nil ?_ | (apply WPL_t; (first | exact WT_move rfl | exact WT_assign rfl | (apply g_load; first | exact WT_loadf rfl rfl | exact WT_load (k := 3) rfl rfl rfl rfl) | (apply g_fld; first | exact WT_field rfl rfl rfl) | (apply g_bin; first | exact WT_lss rfl rfl) | (apply g_index; first | exact WT_index rfl rfl rfl) | (apply g_call; first | exact WT_len rfl rfl)); exact rfl) | refine WP_block ?_ | refine WP_skip ?_ | (apply WPL_op0; exact rfl; first | (apply g_callf; first | (refine WO_call Try.func39 rfl hS rfl ?_; rintro _ _ ⟨rfl, rfl⟩))) | (refine WP_cond rfl (fun hb => ?_) (fun hb => ?_) <;> (repeat (first | replace hb := dec_t hb | replace hb := dec_f hb)) <;> (try (exfalso; first | omega)))))
      generalize o[i] = b0 at *
      refine WP_loop (fun x : Nat × Nat × List Wr => ([(2, ex (.pointer (some ⟨b2, 0, none⟩))), (3, ex (.pointer (some ⟨b3, 0, none⟩))), (4, ex (.pointer (some ⟨b4, 0, none⟩))), (5, ex (.pointer (some ⟨b5, 0, none⟩))), (9, exI .u64 (genF D.secs)), (10, exI .i64 x.2.1), (11, exI .i64 i), (12, isl eByte b0), (13, exI .i64 (secsN b0.length)), (14, exI .i64 x.1)], [row b5 25 4 [ex (.slice none 0 0), ex (.slice none 0 0), exI .i64 0, exB false], row b4 29 3 [ex (.slice none 0 0), exI .i64 0, exI .i64 0], row b3 25 4 [isl (eSl eByte) D.secs, isl eWr x.2.2, exI .i64 D.left, exB D.stopped], row b2 29 3 [isl (eSl eByte) o, exI .i64 D.secs.length, exI .i64 s]])) (fun x => x.1 ≤ secsN b0.length ∧ x.2.1 = at1 + x.1 ∧ x.2.2 ++ wsF (genF D.secs) (secsN b0.length - x.1) x.2.1 (if x.1 = 0 then 1 else 0) (b0.drop (x.1 * 112)) = ws ++ wsF (genF D.secs) (secsN b0.length) at1 1 b0 ∧ Disk.ok { D with pend := x.2.2 } = true ∧ x.2.2.length + at0 = x.2.1) (fun x => secsN b0.length - x.1) (0, at1, ws) ?_ ⟨Nat.zero_le _, rfl, rfl, hwok, hwl⟩ fun x hx => ?_
      · exact Leads_env (by repeat (first | exact sub_nil | refine sub_cons rfl ?_)) (List.Sublist.refl _)
      obtain ⟨k, at2, ws2⟩ := x
      obtain ⟨x1, x2, x3, x4, x5⟩ := hx
      dsimp only at x1 x2 x3 x4 x5 ⊢
      by_cases hk : k < secsN b0.length
      · obtain ⟨n, hn⟩ : ∃ n, secsN b0.length - k = n + 1 := ⟨secsN b0.length - k - 1, by omega⟩
        rw [hn, wsF_succ, drop_step] at x3
        have hpc := piece_eq b0 k
        have hpl : ((b0.drop (k * 112)).take 112).length ≤ 112 := by rw [List.length_take]; omega
        have hat2 : at2 < D.secs.length := by omega
        have hkd : UInt8.ofNat ((decide ((k : Int) = 0)).toNat + 2 * (decide ((k : Int) = (secsN b0.length : Int) - 1)).toNat) = (if n = 0 then UInt8.ofNat ((if k = 0 then (1 : UInt8) else 0).toNat ||| 2) else (if k = 0 then (1 : UInt8) else 0)) := by
          by_cases hk0 : k = 0 <;> by_cases hn0 : n = 0
          · rw [decide_eq_true (by omega), decide_eq_true (by omega), if_pos hn0, if_pos hk0]; rfl
          · rw [decide_eq_true (by omega), decide_eq_false (by omega), if_neg hn0, if_pos hk0]; rfl
          · rw [decide_eq_false (by omega), decide_eq_true (by omega), if_pos hn0, if_neg hk0]; rfl
          · rw [decide_eq_false (by omega), decide_eq_false (by omega), if_neg hn0, if_neg hk0]; rfl
        have hSc := sector_any (genF D.secs) at2 (decide ((k : Int) = 0)) (decide ((k : Int) = (secsN b0.length : Int) - 1)) ((b0.drop (k * 112)).take 112) (by omega) (by omega) hpl
        rw [hkd] at hSc
        rw [← hpc] at hSc hpl x3
        generalize hkdd : (if n = 0 then UInt8.ofNat ((if k = 0 then (1 : UInt8) else 0).toNat ||| 2) else (if k = 0 then (1 : UInt8) else 0)) = kd at hSc x3 hkd
        have hone := write_ok1 (D := { D with pend := ws2 }) x4 hst hat2 (encF_length (genF D.secs) at2 kd _ hpl) (by show ws2.length < 4096; omega)
        generalize encF (genF D.secs) at2 kd ((b0.take (min b0.length ((k + 1) * 112))).drop (k * 112)) = dat at hone hSc x3
        have hWr := rwrite_fr { D with pend := ws2 } at2 dat hDI (by omega)
        rw [hone.1] at hWr
        have hone2 := hone.2
        clear hone
        dsimp only at hWr hone2
        have hNa : Nt ((k : Int) * 112) (k * 112) := ⟨by omega⟩
        have hNb : Nt (min (b0.length : Int) (((k : Int) + 1) * 112)) (min b0.length ((k + 1) * 112)) := ⟨by omega⟩
        have hNc : Nt (min (b0.length : Int) (((k + 1 : Nat) : Int) * 112)) (min b0.length ((k + 1) * 112)) := ⟨by omega⟩
        have hpk : k * 112 ≤ min b0.length ((k + 1) * 112) := by unfold secsN at hk; omega
        (repeat' (first | refine WP_seq ?_ | refine WP_region ?_ | refine WPL_nil ?_ | (apply WPL_t; (first | exact WT_move rfl | exact WT_assign rfl | (apply g_bin; first | exact WT_lss rfl rfl | exact WT_add rfl rfl | exact WT_mul rfl rfl) | (apply g_slice; first | exact WT_slc rfl rfl rfl rfl) | (apply g_call; first | exact WT_min rfl rfl | exact WT_len rfl rfl)); exact rfl) | refine WP_block ?_ | refine WP_skip ?_ | (refine WP_cond rfl (fun hb => ?_) (fun hb => ?_) <;> (repeat (first | replace hb := dec_t hb | replace hb := dec_f hb)) <;> (try (exfalso; first | omega)))))
        clear eJ
        (refine WP_drawl 16 rfl ?_)
        all_goals ((apply WPY_take 0 rfl (by decide +kernel) rfl (by decide +kernel) (by repeat (first | exact np_ret)) guard_none; (first | (apply g_load; first | exact WT_loada2 (k := 2) rfl rfl rfl)); exact rfl))
        all_goals ((apply WPY_pure 1 rfl (by decide +kernel) rfl (by repeat (first | exact np_ret)) guard_none; (first | exact WT_move rfl); exact rfl))
        all_goals ((apply WPY_pure 2 rfl (by decide +kernel) rfl (by repeat (first | exact np_ret)) guard_none; (first | exact WT_move rfl); exact rfl))
        all_goals ((apply WPY_pure 3 rfl (by decide +kernel) rfl (by repeat (first | exact np_ret)) guard_none; (first | exact WT_move rfl); exact rfl))
        all_goals ((apply WPY_pure 4 rfl (by decide +kernel) rfl (by repeat (first | exact np_ret)) guard_none; (first | exact WT_move rfl); exact rfl))
        all_goals ((apply WPY_pure 5 rfl (by decide +kernel) rfl (by repeat (first | exact np_ret)) guard_none; (first | (apply g_bin; first | exact WT_eql rfl rfl)); exact rfl))
        all_goals ((apply WPY_pure 6 rfl (by decide +kernel) rfl (by repeat (first | exact np_ret)) guard_none; (first | exact WT_move rfl); exact rfl))
        all_goals ((apply WPY_pure 7 rfl (by decide +kernel) rfl (by repeat (first | exact np_ret)) guard_none; (first | exact WT_move rfl); exact rfl))
        all_goals ((apply WPY_pure 8 rfl (by decide +kernel) rfl (by repeat (first | exact np_ret)) guard_none; (first | (apply g_bin; first | exact WT_sub rfl rfl)); exact rfl))
        all_goals ((apply WPY_pure 9 rfl (by decide +kernel) rfl (by repeat (first | exact np_ret)) guard_none; (first | (apply g_bin; first | exact WT_eql rfl rfl)); exact rfl))
        all_goals ((apply WPY_pure 10 rfl (by decide +kernel) rfl (by repeat (first | exact np_ret)) guard_none; (first | exact WT_move rfl); exact rfl))
        all_goals (first | (apply WPY_one 11; exact (by decide +kernel); exact rfl; exact guard_none; exact (fun _ _ h => h); first | (apply g_callf; first | (refine WO_call Try.func47 rfl hSc rfl ?_; rintro _ _ ⟨rfl, rfl⟩))))
        all_goals (first | (apply WPY_one 12; exact (by decide +kernel); exact rfl; exact guard_none; exact (fun _ _ h => h); first | (apply g_callf; first | (refine WO_call Try.func46 rfl hWr rfl ?_; rintro _ _ ⟨rfl, rfl⟩))))
        all_goals ((apply WPY_pure 13 rfl (by decide +kernel) rfl (by repeat (first | exact np_ret)) guard_none; (first | exact WT_move rfl); exact rfl))
        all_goals ((apply WPY_pure 14 rfl (by decide +kernel) rfl (by repeat (first | exact np_ret)) guard_none; (first | exact WT_extract rfl rfl); exact rfl))
        all_goals ((apply WPY_pure 15 rfl (by decide +kernel) rfl (by repeat (first | exact np_ret)) guard_none; (first | exact WT_extract rfl rfl); exact rfl))
        all_goals (first | (apply WPY_one 16; exact (by decide +kernel); exact rfl; exact guard_none; exact (fun h => absurd h (by decide)); first | (apply g_store; first | refine WO_store (k := 2) (l0 := []) rfl rfl rfl ?_)))
        all_goals (refine WPY_done (by decide +kernel) ?_)
        (repeat' (first | refine WP_region ?_ | refine WPL_nil ?_ | (apply WPL_t; (first | exact WT_move rfl | exact WT_assign rfl | (apply g_bin; first | exact WT_add rfl rfl)); exact rfl)))
        refine ⟨(k + 1, at2 + 1, ws2 ++ [⟨at2, dat⟩]), ⟨?_, ?_, ?_, ?_, ?_⟩, ?_, ?_⟩
        · dsimp only; omega
        · dsimp only; omega
        · dsimp only
          rw [if_neg (by omega), show secsN b0.length - (k + 1) = n by omega, List.append_assoc]
          exact x3
        · dsimp only
          exact hone2
        · dsimp only; rw [List.length_append, List.length_singleton]; omega
        · dsimp only; omega
        · dsimp only
          exact Leads_env (by repeat (first | exact sub_nil | refine sub_cons rfl ?_)) (List.Sublist.refl _)
      · have hk9 : k = secsN b0.length := by omega
        subst hk9
        rw [Nat.sub_self, wsF_zero, List.append_nil] at x3
        (repeat' (first | refine WP_seq ?_ | refine WP_region ?_ | refine WPL_nil ?_ | (apply WPL_t; (first | exact WT_move rfl | exact WT_assign rfl | (apply g_bin; first | exact WT_lss rfl rfl | exact WT_add rfl rfl)); exact rfl) | refine WP_exit ?_ | (refine WP_cond rfl (fun hb => ?_) (fun hb => ?_) <;> (repeat (first | replace hb := dec_t hb | replace hb := dec_f hb)) <;> (try (exfalso; first | omega)))))
        refine ⟨(i + 1, at2, ws2), ⟨by dsimp only; omega, by dsimp only; omega, by dsimp only; omega, ?_, x4, x5⟩, by dsimp only; omega, Leads_env (by repeat (first | exact sub_nil | refine sub_cons rfl ?_)) (List.Sublist.refl _)⟩
        dsimp only
        rw [x3, x2, List.append_assoc]
        exact hws
    · have hi9 : i = o.length := by omega
      subst hi9
      rw [List.drop_length, allF_nil, List.append_nil] at hws
      subst hws
      have hSy := rsync_fr { D with pend := allF (genF D.secs) (o.drop s) at0 }
      (repeat' (first | refine WP_seq ?_ | refine WP_region ?_ | refine WPL_nil ?_ | (apply WPL_t; (first | exact WT_move rfl | exact WT_assign rfl | exact WT_extract rfl rfl | (apply g_load; first | exact WT_load (k := 3) rfl rfl rfl rfl | exact WT_load (k := 4) rfl rfl rfl rfl | exact WT_loada2 (k := 2) rfl rfl rfl) | (apply g_fld; first | exact WT_field rfl rfl rfl) | (apply g_bin; first | exact WT_lss rfl rfl | exact WT_neq rfl rfl) | (apply g_call; first | exact WT_len rfl rfl)); exact rfl) | refine WP_skip ?_ | refine WP_exit ?_ | (apply WPL_op0; exact rfl; first | (apply g_callf; first | (refine WO_call Try.func48 rfl hSy rfl ?_; rintro _ _ ⟨rfl, rfl⟩)) | (apply g_alloc; refine WO_alloc ?_; intro _) | (apply g_store; first | refine WO_store (k := 0) (l0 := []) rfl rfl rfl ?_ | refine WO_store (k := 4) (l0 := []) rfl rfl rfl ?_)) | (refine WP_cond rfl (fun hb => ?_) (fun hb => ?_) <;> (repeat (first | replace hb := dec_t hb | replace hb := dec_f hb | replace hb := not_t hb | replace hb := not_f hb)) <;> (try (exfalso; first | omega)))))
      · rw [if_pos (by assumption)]
        (refine WP_drawl 3 rfl ?_)
        all_goals ((apply WPY_pure 0 rfl (by decide +kernel) rfl (by repeat (first | exact np_ret)) guard_none; (first | (apply g_build; first | exact WT_build2 rfl rfl (by repeat (first | exact PartsO.nil)))); exact rfl))
        all_goals ((apply WPY_pure 2 rfl (by decide +kernel) rfl (by repeat (first | exact np_ret)) guard_none; (first | exact WT_move rfl); exact rfl))
        all_goals (refine WPY_two (H2 := feet []) 1 3 (by decide +kernel) rfl guard_none (fun _ _ _ => trivial) rfl guard_none (fun h => absurd h (by decide)) ?_ ?_; (apply WO_t (H := fun _ => True); (first | (apply g_load; first | exact WT_loada2 (k := 0) rfl rfl rfl)); exact rfl); (apply WPY_one 3; exact (by decide +kernel); exact rfl; exact guard_none; exact (fun h => absurd h (by decide)); (first | (apply g_store; first | refine WO_store (k := 2) (l0 := []) rfl rfl rfl ?_))); rotate_left; (first | (apply g_store; first | refine WO_store (k := 2) (l0 := []) rfl rfl rfl ?_)); (apply WPY_one 1; exact (by decide +kernel); exact rfl; exact guard_none; exact (fun _ _ _ => trivial); (apply WO_t (H := fun _ => True); (first | (apply g_load; first | exact WT_loada2 (k := 0) rfl rfl rfl)); exact rfl)))
        all_goals (first | (apply WPY_one 4; exact (by decide +kernel); exact rfl; exact guard_none; exact (fun h => absurd h (by decide)); first | (apply g_store; first | refine WO_store (k := 1) (l0 := []) rfl rfl rfl ?_)))
        all_goals (first | (apply WPY_one 5 (by decide +kernel) rfl guard_none (fun _ _ _ => trivial); apply WO_t (H := fun _ => True); (first | exact WT_assign rfl); exact rfl))
        all_goals (refine WPY_done (by decide +kernel) ?_)
        all_goals ((repeat' (first | refine WP_ret ?_)))
        all_goals ((refine ⟨.inr rfl, retw (loc' := []) (by first | exact ret3 rfl (.cella (k := 1) rfl rfl rfl rfl inferInstance rfl) (.cella (k := 0) rfl rfl rfl rfl inferInstance rfl) (.tmp rfl) (List.nil_sublist _) ⟨rfl, rfl⟩ | exact ret3 rfl (.cella (k := 2) rfl rfl rfl rfl inferInstance rfl) (.cella (k := 1) rfl rfl rfl rfl inferInstance rfl) (.tmp rfl) (List.nil_sublist _) ⟨rfl, rfl⟩) ?_ ⟨rfl, rfl⟩⟩))
        all_goals exact Ims.tup (.cons im_jr0 (.cons (.refl _) (.cons (.refl _) .nil)))
      · rw [if_neg (fun h => h (by assumption))]
        (refine WP_drawl 2 rfl ?_)
        all_goals ((apply WPY_take 0 rfl (by decide +kernel) rfl (by decide +kernel) (by repeat (first | exact np_ret)) guard_none; (first | (apply g_load; first | exact WT_loada2 (k := 4) rfl rfl rfl)); exact rfl))
        all_goals (refine WPY_two (H2 := feet []) 1 2 (by decide +kernel) rfl guard_none (fun _ _ _ => trivial) rfl guard_none (fun h => absurd h (by decide)) ?_ ?_; (apply WO_t (H := fun _ => True); (first | (apply g_load; first | exact WT_loada2 (k := 0) rfl rfl rfl)); exact rfl); (apply WPY_one 2; exact (by decide +kernel); exact rfl; exact guard_none; exact (fun h => absurd h (by decide)); (first | (apply g_store; first | refine WO_store (k := 2) (l0 := []) rfl rfl rfl ?_))); rotate_left; (first | (apply g_store; first | refine WO_store (k := 2) (l0 := []) rfl rfl rfl ?_)); (apply WPY_one 1; exact (by decide +kernel); exact rfl; exact guard_none; exact (fun _ _ _ => trivial); (apply WO_t (H := fun _ => True); (first | (apply g_load; first | exact WT_loada2 (k := 0) rfl rfl rfl)); exact rfl)))
        all_goals (first | (apply WPY_one 3; exact (by decide +kernel); exact rfl; exact guard_none; exact (fun h => absurd h (by decide)); first | (apply g_store; first | refine WO_store (k := 1) (l0 := []) rfl rfl rfl ?_)))
        all_goals (first | (apply WPY_one 4 (by decide +kernel) rfl guard_none (fun _ _ _ => trivial); apply WO_t (H := fun _ => True); (first | exact WT_assign rfl); exact rfl))
        all_goals (refine WPY_done (by decide +kernel) ?_)
        all_goals ((repeat' (first | refine WP_ret ?_)))
        all_goals ((refine ⟨.inr rfl, retw (loc' := []) (by first | exact ret3 rfl (.cella (k := 1) rfl rfl rfl rfl inferInstance rfl) (.cella (k := 0) rfl rfl rfl rfl inferInstance rfl) (.tmp rfl) (List.nil_sublist _) ⟨rfl, rfl⟩ | exact ret3 rfl (.cella (k := 2) rfl rfl rfl rfl inferInstance rfl) (.cella (k := 1) rfl rfl rfl rfl inferInstance rfl) (.tmp rfl) (List.nil_sublist _) ⟨rfl, rfl⟩) ?_ ⟨rfl, rfl⟩⟩))
        all_goals exact .refl _

end Go.Proofs.Ytmghnjahjeinnaa
