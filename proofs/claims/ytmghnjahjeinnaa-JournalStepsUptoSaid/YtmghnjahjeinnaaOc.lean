/- JournalSteps. -/
import Derived.Test.YtmghnjahjeinnaaNd
namespace Go.Proofs.Ytmghnjahjeinnaa
open Go Go.RowKit Go.Kx Go.Fr

theorem manyF_app (a b : List (List UInt8)) : manyF (a ++ b) = manyF a + manyF b := by unfold manyF; simp
theorem manyF_all {o : List (List UInt8)} {n : Nat} (h : manyF o ≤ n) : o.length ≤ n ∧ ∀ b ∈ o, b.length ≤ n :=
  ⟨Nat.le_trans (manyF_length o) h, fun b hb => by have := manyF_mem hb; omega⟩
theorem flat_two {α : Type} {E : Enc α} (a b : List (List α)) : [] ++ a.flatMap (slV E) ++ b.flatMap (slV E) = (a ++ b).flatMap (slV E) := by simp

set_option maxHeartbeats 8000000 in
set_option maxRecDepth 100000 in
theorem steps_any (a b : List (List UInt8)) (ha : SmallR a) (hb : SmallR b) : FnC Try.prog 8 [isl (eSl eByte) a, isl (eSl eByte) b] [] (fun p loc => p = exB true ∧ loc = []) := by
  refine FnC_enter Try.func8 rfl Try.ntmps8 rfl fun w0 F0 out => ?_
  have q1 := ha.many
  have q2 := hb.many
  have q3 := manyF_app a b
  have q4 := manyF_length (a ++ b)
  have q5 : (a ++ b).length = a.length + b.length := List.length_append
  have hN := new_fr 40
  rw [show newF 40 = (newD 40, 0) from newF_eq (n := 40) (by decide) (by decide)] at hN
  have hF := few_any (newD 40) (a ++ b) (by omega) (by omega)
  obtain ⟨oa, oab, Dc, D1, D2, S⟩ := steps_plain a b
  generalize newD 40 = D0 at *
  have hO0 := open_any D0
  rw [S.o0] at hO0
  by_cases hfw : fewF D0 (a ++ b) = true
  · have hfew : manyF (a ++ b) ≤ 4000 := by unfold fewF at hfw; simp only [Bool.and_eq_true, decide_eq_true_eq] at hfw; exact hfw.2.2
    rw [hfw] at hF
    have r1 := manyF_all (o := a) (n := 4000) (by omega)
    have r2 := manyF_all (o := b) (n := 4000) (by omega)
    have hnil : ∀ x ∈ ([] : List (List UInt8)), x.length < 2 ^ 40 := fun x hx => by cases hx
    have r1' : ∀ x ∈ a, x.length < 2 ^ 40 := fun x hx => by have := r1.2 x hx; omega
    have r2' : ∀ x ∈ b, x.length < 2 ^ 40 := fun x hx => by have := r2.2 x hx; omega
    have l1 := addF_len 40 0 a []
    have l2 := addF_len 40 0 b oa
    have l3 := addF_all (P := fun x => x.length < 2 ^ 40) (m := 40) (s := 0) a [] hnil r1'
    rw [S.ea] at l1 l3
    have l4 := addF_all (P := fun x => x.length < 2 ^ 40) (m := 40) (s := 0) b oa l3 r2'
    rw [S.eb] at l2 l4
    simp only [List.length_nil] at l1
    have hA := add_any [] 40 0 a (by simp only [List.length_nil]; omega) hnil r1'
    rw [S.ea] at hA
    have hB := add_any oa 40 0 b (by omega) l3 r2'
    rw [S.eb] at hB
    have hB2 := add_any oa 40 oa.length b (by omega) l3 r2'
    rw [S.eb2] at hB2
    have hi : ∀ {D : Disk}, D.left = -1 → DIn D := fun h => by constructor <;> rw [h] <;> decide
    have h1 := jsync_any oab 40 0 D0 (by omega) l4 (hi S.i0)
    rw [S.s1] at h1
    have h2 := jsync_any oa 40 0 D0 (by omega) l3 (hi S.i0)
    rw [S.s2] at h2
    have h3 := jsync_any oab 40 oa.length D1 (by omega) l4 (hi S.i1)
    rw [S.s3] at h3
    have h4 := jsync_any oab 40 oab.length D2 (by omega) l4 (hi S.i2)
    rw [S.s4] at h4
    have hOC := open_any Dc
    rw [S.oc] at hOC
    have hO2 := open_any D2
    rw [S.o2] at hO2
    have hS := jsame_any oab oab 40 oab.length 40 oab.length (by omega) (by omega)
    rw [decide_eq_true (by simp)] at hS
    have hE := sameRec_any oab oab (by omega) (by omega)
    rw [decide_eq_true (by simp)] at hE
    have hT := dsame_fr D2 (hi S.i2)
    dsimp only at h1 h2 h3 h4 hOC hO2 hO0
    (repeat' (first | (apply cut_at 4; refine Stop.out ?_) | refine WP_seq ?_ | refine WP_region ?_ | refine WPL_nil ?_ | (apply WPL_t; (first | exact WT_move rfl | exact WT_assign rfl | exact WT_extract rfl rfl | (apply g_un; first | exact WT_not rfl)); exact rfl) | refine WP_skip ?_ | refine WP_cond_f rfl ?_ | (apply WPL_op0; exact rfl; first | (apply g_callf; first | (refine WO_call Try.func10 rfl sane_any rfl ?_; rintro _ _ ⟨rfl, rfl⟩) | (refine WO_call Try.func25 rfl hN rfl ?_; rintro _ _ ⟨rfl, rfl⟩)) | (apply g_alloc; refine WO_alloc ?_; intro _) | (apply g_store; first | refine WO_store (k := 0) (l0 := []) rfl rfl rfl ?_))))
    refine ⟨?_⟩
    rename_i b5
    refine WP_cutR 4 (fun _ : Nat => ([(0, isl (eSl eByte) a), (1, isl (eSl eByte) b), (4, exB false), (5, ex (.pointer (some ⟨b5, 0, none⟩))), (6, exI .i64 0), (43, exB false)], [row b5 25 4 [isl (eSl eByte) D0.secs, isl eWr D0.pend, exI .i64 D0.left, exB D0.stopped]])) (fun _ => True) ?_ fun _ _ => ?_
    ·
      (refine WP_drawl 8 rfl ?_)
      (repeat' (first | (refine WPY_leads (by decide +kernel) (Leads_fvec (k := 0) (E := eSl eByte) (t := 40) (a ++ b) rfl rfl (flat_two a b) (by simp)) ?_) | refine WPY_done (by decide +kernel) ?_ | (apply WPY_pure 0 rfl (by decide +kernel) rfl (by repeat (first | exact np_ret)) guard_none) | (apply WPY_pure 1 rfl (by decide +kernel) rfl (by repeat (first | exact np_ret)) guard_none) | (apply WPY_pure 2 rfl (by decide +kernel) rfl (by repeat (first | exact np_ret)) guard_none) | (apply WPY_pure 5 rfl (by decide +kernel) rfl (by repeat (first | exact np_ret)) (guard_some rfl rfl rfl)) | (apply WPY_pure 7 rfl (by decide +kernel) rfl (by repeat (first | exact np_ret)) (guard_some rfl rfl rfl)) | (refine WPY_one 6 (by decide +kernel) rfl (guard_some rfl rfl rfl) (fun _ _ h => h) ?_) | (refine WPY_one (H' := fun _ => True) 11 (by decide +kernel) rfl guard_none (fun _ _ _ => trivial) ?_) | (refine WPY_one (H' := feet []) 8 (by decide +kernel) rfl (guard_some rfl rfl rfl) (fun h => absurd h (by decide)) ?_) | (refine WPY_one 4 (by decide +kernel) rfl (guard_some rfl rfl rfl) (fun _ _ h => h) ?_) | (refine WPY_one (H' := fun _ => True) 10 (by decide +kernel) rfl (guard_some rfl rfl rfl) (fun _ _ _ => trivial) ?_) | (refine WPY_one (H' := fun _ => True) 3 (by decide +kernel) rfl (guard_some rfl rfl rfl) (fun _ _ _ => trivial) ?_) | (refine WPY_one (H' := feet []) 9 (by decide +kernel) rfl (guard_some rfl rfl rfl) (fun h => absurd h (by decide)) ?_) | (refine WPY_two (H1 := fun _ => True) (H2 := feet []) 3 8 (by decide +kernel) rfl (guard_some rfl rfl rfl) (fun _ _ _ => trivial) rfl (guard_some rfl rfl rfl) (fun h => absurd h (by decide)) ?_ ?_) | (refine WPY_two (H1 := fun _ => True) 3 4 (by decide +kernel) rfl (guard_some rfl rfl rfl) (fun _ _ _ => trivial) rfl (guard_some rfl rfl rfl) (fun _ _ h => h) ?_ ?_) | (refine WPY_two (H1 := fun _ => True) 3 6 (by decide +kernel) rfl (guard_some rfl rfl rfl) (fun _ _ _ => trivial) rfl (guard_some rfl rfl rfl) (fun _ _ h => h) ?_ ?_) | (apply WO_t (H := fun _ => True)) | (apply g_callf; first | (refine WO_call Try.func11 rfl hF rfl ?_; rintro _ _ ⟨rfl, rfl⟩)) | (apply g_append; (first | (refine WO_append (k := 0) (l0 := []) rfl rfl (by first | exact Src_isl rfl) rfl ?_) | (refine WO_append_row (k := 0) (l0 := _) rfl rfl rfl rfl (by first | exact Src_isl rfl) rfl ?_ (hH := List.Sublist.refl _))); intro _) | (apply g_bslice; (first | refine WO_bslice0 rfl ?_); intro _) | (apply blt_h; exact rfl) | (first | exact WT_move rfl | exact WT_pick (b := false) rfl (fun e => by cases e) (fun _ => rfl) | (apply g_load; first | exact WT_loada2 (k := 0) rfl rfl rfl | exact WT_loada2 (k := 1) rfl rfl rfl) | (apply g_bin; first | exact WT_neq rfl rfl) | (apply g_un; first | exact WT_not rfl))))
      all_goals exact cut_here 0 trivial (Leads_env (by repeat (first | exact sub_nil | refine sub_cons rfl ?_)) (List.Sublist.refl _))
    (repeat' (first | (apply cut_at 10; refine Stop.out ?_) | refine WP_seq ?_ | refine WP_region ?_ | refine WPL_nil ?_ | (apply WPL_t; (first | exact WT_move rfl | exact WT_assign rfl | exact WT_extract rfl rfl | (apply g_load; first | exact WT_loada2 (k := 0) rfl rfl rfl) | (apply g_bin; first | exact WT_neq rfl rfl)); exact rfl) | refine WP_skip ?_ | refine WP_cond_f rfl ?_ | (apply WPL_op0; exact rfl; first | (apply g_callf; first | (refine WO_call Try.func12 rfl hO0 rfl ?_; rintro _ _ ⟨rfl, rfl⟩)) | (apply g_alloc; refine WO_alloc ?_; intro _) | (apply g_store; first | refine WO_store (k := 0) (l0 := []) rfl rfl rfl ?_))))
    refine ⟨?_⟩
    rename_i b8
    refine WP_cutR 10 (fun z : Nat × Nat => ([(0, isl (eSl eByte) a), (1, isl (eSl eByte) b), (4, exB false), (5, ex (.pointer (some ⟨b5, 0, none⟩))), (6, exI .i64 0), (7, ex (.func (.func 28) #[] #[])), (8, ex (.pointer (some ⟨b8, 0, none⟩))), (9, exI .i64 0), (10, ex (.pointer (some ⟨z.1, 0, none⟩))), (11, ex (.pointer (some ⟨z.2, 0, none⟩))), (12, exI .i64 0)], [row z.1 29 3 [isl (eSl eByte) oab, exI .i64 40, exI .i64 oab.length], row z.2 25 4 [isl (eSl eByte) Dc.secs, isl eWr Dc.pend, exI .i64 Dc.left, exB Dc.stopped], row b8 29 3 [isl (eSl eByte) [], exI .i64 40, exI .i64 0], row b5 25 4 [isl (eSl eByte) D0.secs, isl eWr D0.pend, exI .i64 D0.left, exB D0.stopped]])) (fun _ => True) ?_ fun z _ => ?_
    ·
      (refine WP_drawl 15 rfl ?_)
      (apply WPY_pure 0 rfl (by decide +kernel) rfl (by repeat (first | exact np_ret)) guard_none; (first | exact WT_move rfl); exact rfl)
      (apply WPY_pure 1 rfl (by decide +kernel) rfl (by repeat (first | exact np_ret)) guard_none; (first | exact WT_move rfl); exact rfl)
      (apply WPY_take 2 rfl (by decide +kernel) rfl (by decide +kernel) (by repeat (first | exact np_ret)) guard_none; (first | (apply g_load; first | exact WT_loada2 (k := 0) rfl rfl rfl)); exact rfl)
      (apply WPY_pure 3 rfl (by decide +kernel) rfl (by repeat (first | exact np_ret)) guard_none; (first | exact WT_move rfl); exact rfl)
      (apply WPY_pure 5 rfl (by decide +kernel) rfl (by repeat (first | exact np_ret)) guard_none; (first | exact WT_move rfl); exact rfl)
      (apply WPY_take 7 rfl (by decide +kernel) rfl (by decide +kernel) (by repeat (first | exact np_ret)) guard_none; (first | (apply g_load; first | exact WT_loada2 (k := 1) rfl rfl rfl)); exact rfl)
      (refine WPY_three 4 13 14 (by decide +kernel) rfl guard_none (fun _ _ h => h) rfl guard_none (fun _ _ h => h) rfl guard_none (fun _ _ h => h) ?_ ?_ ?_)
      ·
        (first | (apply g_callf; first | (refine WO_callv (vs := []) (args := [_, _]) rfl Try.func28 rfl hA rfl ?_; rintro _ _ ⟨rfl, rfl⟩) | (refine WO_callv (vs := []) (args := [_, _]) rfl Try.func28 rfl hB rfl ?_; rintro _ _ ⟨rfl, rfl⟩) | (refine WO_call Try.func21 rfl h1 rfl ?_; rintro _ _ ⟨rfl, rfl⟩)))
        (refine WPY_three 6 13 14 (by decide +kernel) rfl guard_none (fun _ _ h => h) rfl guard_none (fun _ _ h => h) rfl guard_none (fun _ _ h => h) ?_ ?_ ?_)
        ·
          (first | (apply g_callf; first | (refine WO_callv (vs := []) (args := [_, _]) rfl Try.func28 rfl hA rfl ?_; rintro _ _ ⟨rfl, rfl⟩) | (refine WO_callv (vs := []) (args := [_, _]) rfl Try.func28 rfl hB rfl ?_; rintro _ _ ⟨rfl, rfl⟩) | (refine WO_call Try.func21 rfl h1 rfl ?_; rintro _ _ ⟨rfl, rfl⟩)))
          (refine WPY_three 8 13 14 (by decide +kernel) rfl guard_none (fun _ _ h => h) rfl guard_none (fun _ _ h => h) rfl guard_none (fun _ _ h => h) ?_ ?_ ?_)
          ·
            (first | (apply g_callf; first | (refine WO_callv (vs := []) (args := [_, _]) rfl Try.func28 rfl hA rfl ?_; rintro _ _ ⟨rfl, rfl⟩) | (refine WO_callv (vs := []) (args := [_, _]) rfl Try.func28 rfl hB rfl ?_; rintro _ _ ⟨rfl, rfl⟩) | (refine WO_call Try.func21 rfl h1 rfl ?_; rintro _ _ ⟨rfl, rfl⟩)))
            (apply WPY_pure 9 rfl (by decide +kernel) rfl (by repeat (first | exact np_ret)) guard_none; (first | exact WT_move rfl); exact rfl)
            (apply WPY_pure 10 rfl (by decide +kernel) rfl (by repeat (first | exact np_ret)) guard_none; (first | exact WT_extract rfl rfl); exact rfl)
            (apply WPY_pure 11 rfl (by decide +kernel) rfl (by repeat (first | exact np_ret)) guard_none; (first | exact WT_extract rfl rfl); exact rfl)
            (apply WPY_pure 12 rfl (by decide +kernel) rfl (by repeat (first | exact np_ret)) guard_none; (first | exact WT_extract rfl rfl); exact rfl)
            (refine WPY_two 13 14 (by decide +kernel) rfl guard_none (fun _ _ h => h) rfl guard_none (fun _ _ h => h) ?_ ?_)
            ·
              (first | (apply g_alloc; refine WO_alloc ?_; intro _))
              (refine WPY_one 14 (by decide +kernel) rfl guard_none (fun _ _ h => h) ?_)
              (first | (apply g_alloc; refine WO_alloc ?_; intro _))
              (refine WPY_one (H' := feet []) 15 (by decide +kernel) rfl guard_none (fun h => absurd h (by decide)) ?_)
              (first | (apply g_store; first | refine WO_store (k := 1) (l0 := []) rfl rfl rfl ?_))
              (refine WPY_one (H' := feet []) 16 (by decide +kernel) rfl guard_none (fun h => absurd h (by decide)) ?_)
              (first | (apply g_store; first | refine WO_store (k := 0) (l0 := []) rfl rfl rfl ?_))
              (refine WPY_one (H' := fun _ => True) 17 (by decide +kernel) rfl guard_none (fun _ _ _ => trivial) ?_)
              ((apply WO_t (H := fun _ => True); (first | exact WT_assign rfl); exact rfl))
              refine WPY_done (by decide +kernel) ?_
              first | exact cut_here (_, _) trivial (Leads_env (by repeat (first | exact sub_nil | refine sub_cons rfl ?_)) (List.Sublist.refl _)) | exact cut_here (_, _) trivial (Leads.trans (Leads_perm (List.Perm.swap _ _ _)) (Leads_env (by repeat (first | exact sub_nil | refine sub_cons rfl ?_)) (List.Sublist.refl _)))
            ·
              (first | (apply g_alloc; refine WO_alloc ?_; intro _))
              (refine WPY_one 13 (by decide +kernel) rfl guard_none (fun _ _ h => h) ?_)
              (first | (apply g_alloc; refine WO_alloc ?_; intro _))
              (refine WPY_one (H' := feet []) 15 (by decide +kernel) rfl guard_none (fun h => absurd h (by decide)) ?_)
              (first | (apply g_store; first | refine WO_store (k := 0) (l0 := []) rfl rfl rfl ?_))
              (refine WPY_one (H' := feet []) 16 (by decide +kernel) rfl guard_none (fun h => absurd h (by decide)) ?_)
              (first | (apply g_store; first | refine WO_store (k := 1) (l0 := []) rfl rfl rfl ?_))
              (refine WPY_one (H' := fun _ => True) 17 (by decide +kernel) rfl guard_none (fun _ _ _ => trivial) ?_)
              ((apply WO_t (H := fun _ => True); (first | exact WT_assign rfl); exact rfl))
              refine WPY_done (by decide +kernel) ?_
              first | exact cut_here (_, _) trivial (Leads_env (by repeat (first | exact sub_nil | refine sub_cons rfl ?_)) (List.Sublist.refl _)) | exact cut_here (_, _) trivial (Leads.trans (Leads_perm (List.Perm.swap _ _ _)) (Leads_env (by repeat (first | exact sub_nil | refine sub_cons rfl ?_)) (List.Sublist.refl _)))
          ·
            (first | (apply g_alloc; refine WO_alloc ?_; intro _))
            (refine WPY_two 8 14 (by decide +kernel) rfl guard_none (fun _ _ h => h) rfl guard_none (fun _ _ h => h) ?_ ?_)
            ·
              (first | (apply g_callf; first | (refine WO_callv (vs := []) (args := [_, _]) rfl Try.func28 rfl hA rfl ?_; rintro _ _ ⟨rfl, rfl⟩) | (refine WO_callv (vs := []) (args := [_, _]) rfl Try.func28 rfl hB rfl ?_; rintro _ _ ⟨rfl, rfl⟩) | (refine WO_call Try.func21 rfl h1 rfl ?_; rintro _ _ ⟨rfl, rfl⟩)))
              (apply WPY_pure 9 rfl (by decide +kernel) rfl (by repeat (first | exact np_ret)) guard_none; (first | exact WT_move rfl); exact rfl)
              (apply WPY_pure 10 rfl (by decide +kernel) rfl (by repeat (first | exact np_ret)) guard_none; (first | exact WT_extract rfl rfl); exact rfl)
              (apply WPY_pure 11 rfl (by decide +kernel) rfl (by repeat (first | exact np_ret)) guard_none; (first | exact WT_extract rfl rfl); exact rfl)
              (apply WPY_pure 12 rfl (by decide +kernel) rfl (by repeat (first | exact np_ret)) guard_none; (first | exact WT_extract rfl rfl); exact rfl)
              (refine WPY_one 14 (by decide +kernel) rfl guard_none (fun _ _ h => h) ?_)
              (first | (apply g_alloc; refine WO_alloc ?_; intro _))
              (refine WPY_one (H' := feet []) 15 (by decide +kernel) rfl guard_none (fun h => absurd h (by decide)) ?_)
              (first | (apply g_store; first | refine WO_store (k := 1) (l0 := []) rfl rfl rfl ?_))
              (refine WPY_one (H' := feet []) 16 (by decide +kernel) rfl guard_none (fun h => absurd h (by decide)) ?_)
              (first | (apply g_store; first | refine WO_store (k := 0) (l0 := []) rfl rfl rfl ?_))
              (refine WPY_one (H' := fun _ => True) 17 (by decide +kernel) rfl guard_none (fun _ _ _ => trivial) ?_)
              ((apply WO_t (H := fun _ => True); (first | exact WT_assign rfl); exact rfl))
              refine WPY_done (by decide +kernel) ?_
              first | exact cut_here (_, _) trivial (Leads_env (by repeat (first | exact sub_nil | refine sub_cons rfl ?_)) (List.Sublist.refl _)) | exact cut_here (_, _) trivial (Leads.trans (Leads_perm (List.Perm.swap _ _ _)) (Leads_env (by repeat (first | exact sub_nil | refine sub_cons rfl ?_)) (List.Sublist.refl _)))
            ·
              (first | (apply g_alloc; refine WO_alloc ?_; intro _))
              (refine WPY_one 8 (by decide +kernel) rfl guard_none (fun _ _ h => h) ?_)
              (first | (apply g_callf; first | (refine WO_callv (vs := []) (args := [_, _]) rfl Try.func28 rfl hA rfl ?_; rintro _ _ ⟨rfl, rfl⟩) | (refine WO_callv (vs := []) (args := [_, _]) rfl Try.func28 rfl hB rfl ?_; rintro _ _ ⟨rfl, rfl⟩) | (refine WO_call Try.func21 rfl h1 rfl ?_; rintro _ _ ⟨rfl, rfl⟩)))
              (apply WPY_pure 9 rfl (by decide +kernel) rfl (by repeat (first | exact np_ret)) guard_none; (first | exact WT_move rfl); exact rfl)
              (apply WPY_pure 10 rfl (by decide +kernel) rfl (by repeat (first | exact np_ret)) guard_none; (first | exact WT_extract rfl rfl); exact rfl)
              (apply WPY_pure 11 rfl (by decide +kernel) rfl (by repeat (first | exact np_ret)) guard_none; (first | exact WT_extract rfl rfl); exact rfl)
              (apply WPY_pure 12 rfl (by decide +kernel) rfl (by repeat (first | exact np_ret)) guard_none; (first | exact WT_extract rfl rfl); exact rfl)
              (refine WPY_one (H' := feet []) 15 (by decide +kernel) rfl guard_none (fun h => absurd h (by decide)) ?_)
              (first | (apply g_store; first | refine WO_store (k := 1) (l0 := []) rfl rfl rfl ?_))
              (refine WPY_one (H' := feet []) 16 (by decide +kernel) rfl guard_none (fun h => absurd h (by decide)) ?_)
              (first | (apply g_store; first | refine WO_store (k := 0) (l0 := []) rfl rfl rfl ?_))
              (refine WPY_one (H' := fun _ => True) 17 (by decide +kernel) rfl guard_none (fun _ _ _ => trivial) ?_)
              ((apply WO_t (H := fun _ => True); (first | exact WT_assign rfl); exact rfl))
              refine WPY_done (by decide +kernel) ?_
              first | exact cut_here (_, _) trivial (Leads_env (by repeat (first | exact sub_nil | refine sub_cons rfl ?_)) (List.Sublist.refl _)) | exact cut_here (_, _) trivial (Leads.trans (Leads_perm (List.Perm.swap _ _ _)) (Leads_env (by repeat (first | exact sub_nil | refine sub_cons rfl ?_)) (List.Sublist.refl _)))
          ·
            (first | (apply g_alloc; refine WO_alloc ?_; intro _))
            (refine WPY_two 8 13 (by decide +kernel) rfl guard_none (fun _ _ h => h) rfl guard_none (fun _ _ h => h) ?_ ?_)
            ·
              (first | (apply g_callf; first | (refine WO_callv (vs := []) (args := [_, _]) rfl Try.func28 rfl hA rfl ?_; rintro _ _ ⟨rfl, rfl⟩) | (refine WO_callv (vs := []) (args := [_, _]) rfl Try.func28 rfl hB rfl ?_; rintro _ _ ⟨rfl, rfl⟩) | (refine WO_call Try.func21 rfl h1 rfl ?_; rintro _ _ ⟨rfl, rfl⟩)))
              (apply WPY_pure 9 rfl (by decide +kernel) rfl (by repeat (first | exact np_ret)) guard_none; (first | exact WT_move rfl); exact rfl)
              (apply WPY_pure 10 rfl (by decide +kernel) rfl (by repeat (first | exact np_ret)) guard_none; (first | exact WT_extract rfl rfl); exact rfl)
              (apply WPY_pure 11 rfl (by decide +kernel) rfl (by repeat (first | exact np_ret)) guard_none; (first | exact WT_extract rfl rfl); exact rfl)
              (apply WPY_pure 12 rfl (by decide +kernel) rfl (by repeat (first | exact np_ret)) guard_none; (first | exact WT_extract rfl rfl); exact rfl)
              (refine WPY_one 13 (by decide +kernel) rfl guard_none (fun _ _ h => h) ?_)
              (first | (apply g_alloc; refine WO_alloc ?_; intro _))
              (refine WPY_one (H' := feet []) 15 (by decide +kernel) rfl guard_none (fun h => absurd h (by decide)) ?_)
              (first | (apply g_store; first | refine WO_store (k := 0) (l0 := []) rfl rfl rfl ?_))
              (refine WPY_one (H' := feet []) 16 (by decide +kernel) rfl guard_none (fun h => absurd h (by decide)) ?_)
              (first | (apply g_store; first | refine WO_store (k := 1) (l0 := []) rfl rfl rfl ?_))
              (refine WPY_one (H' := fun _ => True) 17 (by decide +kernel) rfl guard_none (fun _ _ _ => trivial) ?_)
              ((apply WO_t (H := fun _ => True); (first | exact WT_assign rfl); exact rfl))
              refine WPY_done (by decide +kernel) ?_
              first | exact cut_here (_, _) trivial (Leads_env (by repeat (first | exact sub_nil | refine sub_cons rfl ?_)) (List.Sublist.refl _)) | exact cut_here (_, _) trivial (Leads.trans (Leads_perm (List.Perm.swap _ _ _)) (Leads_env (by repeat (first | exact sub_nil | refine sub_cons rfl ?_)) (List.Sublist.refl _)))
            ·
              (first | (apply g_alloc; refine WO_alloc ?_; intro _))
              (refine WPY_one 8 (by decide +kernel) rfl guard_none (fun _ _ h => h) ?_)
              (first | (apply g_callf; first | (refine WO_callv (vs := []) (args := [_, _]) rfl Try.func28 rfl hA rfl ?_; rintro _ _ ⟨rfl, rfl⟩) | (refine WO_callv (vs := []) (args := [_, _]) rfl Try.func28 rfl hB rfl ?_; rintro _ _ ⟨rfl, rfl⟩) | (refine WO_call Try.func21 rfl h1 rfl ?_; rintro _ _ ⟨rfl, rfl⟩)))
              (apply WPY_pure 9 rfl (by decide +kernel) rfl (by repeat (first | exact np_ret)) guard_none; (first | exact WT_move rfl); exact rfl)
              (apply WPY_pure 10 rfl (by decide +kernel) rfl (by repeat (first | exact np_ret)) guard_none; (first | exact WT_extract rfl rfl); exact rfl)
              (apply WPY_pure 11 rfl (by decide +kernel) rfl (by repeat (first | exact np_ret)) guard_none; (first | exact WT_extract rfl rfl); exact rfl)
              (apply WPY_pure 12 rfl (by decide +kernel) rfl (by repeat (first | exact np_ret)) guard_none; (first | exact WT_extract rfl rfl); exact rfl)
              (refine WPY_one (H' := feet []) 15 (by decide +kernel) rfl guard_none (fun h => absurd h (by decide)) ?_)
              (first | (apply g_store; first | refine WO_store (k := 0) (l0 := []) rfl rfl rfl ?_))
              (refine WPY_one (H' := feet []) 16 (by decide +kernel) rfl guard_none (fun h => absurd h (by decide)) ?_)
              (first | (apply g_store; first | refine WO_store (k := 1) (l0 := []) rfl rfl rfl ?_))
              (refine WPY_one (H' := fun _ => True) 17 (by decide +kernel) rfl guard_none (fun _ _ _ => trivial) ?_)
              ((apply WO_t (H := fun _ => True); (first | exact WT_assign rfl); exact rfl))
              refine WPY_done (by decide +kernel) ?_
              first | exact cut_here (_, _) trivial (Leads_env (by repeat (first | exact sub_nil | refine sub_cons rfl ?_)) (List.Sublist.refl _)) | exact cut_here (_, _) trivial (Leads.trans (Leads_perm (List.Perm.swap _ _ _)) (Leads_env (by repeat (first | exact sub_nil | refine sub_cons rfl ?_)) (List.Sublist.refl _)))
        ·
          (first | (apply g_alloc; refine WO_alloc ?_; intro _))
          (refine WPY_two 6 14 (by decide +kernel) rfl guard_none (fun _ _ h => h) rfl guard_none (fun _ _ h => h) ?_ ?_)
          ·
            (first | (apply g_callf; first | (refine WO_callv (vs := []) (args := [_, _]) rfl Try.func28 rfl hA rfl ?_; rintro _ _ ⟨rfl, rfl⟩) | (refine WO_callv (vs := []) (args := [_, _]) rfl Try.func28 rfl hB rfl ?_; rintro _ _ ⟨rfl, rfl⟩) | (refine WO_call Try.func21 rfl h1 rfl ?_; rintro _ _ ⟨rfl, rfl⟩)))
            (refine WPY_two 8 14 (by decide +kernel) rfl guard_none (fun _ _ h => h) rfl guard_none (fun _ _ h => h) ?_ ?_)
            ·
              (first | (apply g_callf; first | (refine WO_callv (vs := []) (args := [_, _]) rfl Try.func28 rfl hA rfl ?_; rintro _ _ ⟨rfl, rfl⟩) | (refine WO_callv (vs := []) (args := [_, _]) rfl Try.func28 rfl hB rfl ?_; rintro _ _ ⟨rfl, rfl⟩) | (refine WO_call Try.func21 rfl h1 rfl ?_; rintro _ _ ⟨rfl, rfl⟩)))
              (apply WPY_pure 9 rfl (by decide +kernel) rfl (by repeat (first | exact np_ret)) guard_none; (first | exact WT_move rfl); exact rfl)
              (apply WPY_pure 10 rfl (by decide +kernel) rfl (by repeat (first | exact np_ret)) guard_none; (first | exact WT_extract rfl rfl); exact rfl)
              (apply WPY_pure 11 rfl (by decide +kernel) rfl (by repeat (first | exact np_ret)) guard_none; (first | exact WT_extract rfl rfl); exact rfl)
              (apply WPY_pure 12 rfl (by decide +kernel) rfl (by repeat (first | exact np_ret)) guard_none; (first | exact WT_extract rfl rfl); exact rfl)
              (refine WPY_one 14 (by decide +kernel) rfl guard_none (fun _ _ h => h) ?_)
              (first | (apply g_alloc; refine WO_alloc ?_; intro _))
              (refine WPY_one (H' := feet []) 15 (by decide +kernel) rfl guard_none (fun h => absurd h (by decide)) ?_)
              (first | (apply g_store; first | refine WO_store (k := 1) (l0 := []) rfl rfl rfl ?_))
              (refine WPY_one (H' := feet []) 16 (by decide +kernel) rfl guard_none (fun h => absurd h (by decide)) ?_)
              (first | (apply g_store; first | refine WO_store (k := 0) (l0 := []) rfl rfl rfl ?_))
              (refine WPY_one (H' := fun _ => True) 17 (by decide +kernel) rfl guard_none (fun _ _ _ => trivial) ?_)
              ((apply WO_t (H := fun _ => True); (first | exact WT_assign rfl); exact rfl))
              refine WPY_done (by decide +kernel) ?_
              first | exact cut_here (_, _) trivial (Leads_env (by repeat (first | exact sub_nil | refine sub_cons rfl ?_)) (List.Sublist.refl _)) | exact cut_here (_, _) trivial (Leads.trans (Leads_perm (List.Perm.swap _ _ _)) (Leads_env (by repeat (first | exact sub_nil | refine sub_cons rfl ?_)) (List.Sublist.refl _)))
            ·
              (first | (apply g_alloc; refine WO_alloc ?_; intro _))
              (refine WPY_one 8 (by decide +kernel) rfl guard_none (fun _ _ h => h) ?_)
              (first | (apply g_callf; first | (refine WO_callv (vs := []) (args := [_, _]) rfl Try.func28 rfl hA rfl ?_; rintro _ _ ⟨rfl, rfl⟩) | (refine WO_callv (vs := []) (args := [_, _]) rfl Try.func28 rfl hB rfl ?_; rintro _ _ ⟨rfl, rfl⟩) | (refine WO_call Try.func21 rfl h1 rfl ?_; rintro _ _ ⟨rfl, rfl⟩)))
              (apply WPY_pure 9 rfl (by decide +kernel) rfl (by repeat (first | exact np_ret)) guard_none; (first | exact WT_move rfl); exact rfl)
              (apply WPY_pure 10 rfl (by decide +kernel) rfl (by repeat (first | exact np_ret)) guard_none; (first | exact WT_extract rfl rfl); exact rfl)
              (apply WPY_pure 11 rfl (by decide +kernel) rfl (by repeat (first | exact np_ret)) guard_none; (first | exact WT_extract rfl rfl); exact rfl)
              (apply WPY_pure 12 rfl (by decide +kernel) rfl (by repeat (first | exact np_ret)) guard_none; (first | exact WT_extract rfl rfl); exact rfl)
              (refine WPY_one (H' := feet []) 15 (by decide +kernel) rfl guard_none (fun h => absurd h (by decide)) ?_)
              (first | (apply g_store; first | refine WO_store (k := 1) (l0 := []) rfl rfl rfl ?_))
              (refine WPY_one (H' := feet []) 16 (by decide +kernel) rfl guard_none (fun h => absurd h (by decide)) ?_)
              (first | (apply g_store; first | refine WO_store (k := 0) (l0 := []) rfl rfl rfl ?_))
              (refine WPY_one (H' := fun _ => True) 17 (by decide +kernel) rfl guard_none (fun _ _ _ => trivial) ?_)
              ((apply WO_t (H := fun _ => True); (first | exact WT_assign rfl); exact rfl))
              refine WPY_done (by decide +kernel) ?_
              first | exact cut_here (_, _) trivial (Leads_env (by repeat (first | exact sub_nil | refine sub_cons rfl ?_)) (List.Sublist.refl _)) | exact cut_here (_, _) trivial (Leads.trans (Leads_perm (List.Perm.swap _ _ _)) (Leads_env (by repeat (first | exact sub_nil | refine sub_cons rfl ?_)) (List.Sublist.refl _)))
          ·
            (first | (apply g_alloc; refine WO_alloc ?_; intro _))
            (refine WPY_one 6 (by decide +kernel) rfl guard_none (fun _ _ h => h) ?_)
            (first | (apply g_callf; first | (refine WO_callv (vs := []) (args := [_, _]) rfl Try.func28 rfl hA rfl ?_; rintro _ _ ⟨rfl, rfl⟩) | (refine WO_callv (vs := []) (args := [_, _]) rfl Try.func28 rfl hB rfl ?_; rintro _ _ ⟨rfl, rfl⟩) | (refine WO_call Try.func21 rfl h1 rfl ?_; rintro _ _ ⟨rfl, rfl⟩)))
            (refine WPY_one 8 (by decide +kernel) rfl guard_none (fun _ _ h => h) ?_)
            (first | (apply g_callf; first | (refine WO_callv (vs := []) (args := [_, _]) rfl Try.func28 rfl hA rfl ?_; rintro _ _ ⟨rfl, rfl⟩) | (refine WO_callv (vs := []) (args := [_, _]) rfl Try.func28 rfl hB rfl ?_; rintro _ _ ⟨rfl, rfl⟩) | (refine WO_call Try.func21 rfl h1 rfl ?_; rintro _ _ ⟨rfl, rfl⟩)))
            (apply WPY_pure 9 rfl (by decide +kernel) rfl (by repeat (first | exact np_ret)) guard_none; (first | exact WT_move rfl); exact rfl)
            (apply WPY_pure 10 rfl (by decide +kernel) rfl (by repeat (first | exact np_ret)) guard_none; (first | exact WT_extract rfl rfl); exact rfl)
            (apply WPY_pure 11 rfl (by decide +kernel) rfl (by repeat (first | exact np_ret)) guard_none; (first | exact WT_extract rfl rfl); exact rfl)
            (apply WPY_pure 12 rfl (by decide +kernel) rfl (by repeat (first | exact np_ret)) guard_none; (first | exact WT_extract rfl rfl); exact rfl)
            (refine WPY_one (H' := feet []) 15 (by decide +kernel) rfl guard_none (fun h => absurd h (by decide)) ?_)
            (first | (apply g_store; first | refine WO_store (k := 1) (l0 := []) rfl rfl rfl ?_))
            (refine WPY_one (H' := feet []) 16 (by decide +kernel) rfl guard_none (fun h => absurd h (by decide)) ?_)
            (first | (apply g_store; first | refine WO_store (k := 0) (l0 := []) rfl rfl rfl ?_))
            (refine WPY_one (H' := fun _ => True) 17 (by decide +kernel) rfl guard_none (fun _ _ _ => trivial) ?_)
            ((apply WO_t (H := fun _ => True); (first | exact WT_assign rfl); exact rfl))
            refine WPY_done (by decide +kernel) ?_
            first | exact cut_here (_, _) trivial (Leads_env (by repeat (first | exact sub_nil | refine sub_cons rfl ?_)) (List.Sublist.refl _)) | exact cut_here (_, _) trivial (Leads.trans (Leads_perm (List.Perm.swap _ _ _)) (Leads_env (by repeat (first | exact sub_nil | refine sub_cons rfl ?_)) (List.Sublist.refl _)))
        ·
          (first | (apply g_alloc; refine WO_alloc ?_; intro _))
          (refine WPY_two 6 13 (by decide +kernel) rfl guard_none (fun _ _ h => h) rfl guard_none (fun _ _ h => h) ?_ ?_)
          ·
            (first | (apply g_callf; first | (refine WO_callv (vs := []) (args := [_, _]) rfl Try.func28 rfl hA rfl ?_; rintro _ _ ⟨rfl, rfl⟩) | (refine WO_callv (vs := []) (args := [_, _]) rfl Try.func28 rfl hB rfl ?_; rintro _ _ ⟨rfl, rfl⟩) | (refine WO_call Try.func21 rfl h1 rfl ?_; rintro _ _ ⟨rfl, rfl⟩)))
            (refine WPY_two 8 13 (by decide +kernel) rfl guard_none (fun _ _ h => h) rfl guard_none (fun _ _ h => h) ?_ ?_)
            ·
              (first | (apply g_callf; first | (refine WO_callv (vs := []) (args := [_, _]) rfl Try.func28 rfl hA rfl ?_; rintro _ _ ⟨rfl, rfl⟩) | (refine WO_callv (vs := []) (args := [_, _]) rfl Try.func28 rfl hB rfl ?_; rintro _ _ ⟨rfl, rfl⟩) | (refine WO_call Try.func21 rfl h1 rfl ?_; rintro _ _ ⟨rfl, rfl⟩)))
              (apply WPY_pure 9 rfl (by decide +kernel) rfl (by repeat (first | exact np_ret)) guard_none; (first | exact WT_move rfl); exact rfl)
              (apply WPY_pure 10 rfl (by decide +kernel) rfl (by repeat (first | exact np_ret)) guard_none; (first | exact WT_extract rfl rfl); exact rfl)
              (apply WPY_pure 11 rfl (by decide +kernel) rfl (by repeat (first | exact np_ret)) guard_none; (first | exact WT_extract rfl rfl); exact rfl)
              (apply WPY_pure 12 rfl (by decide +kernel) rfl (by repeat (first | exact np_ret)) guard_none; (first | exact WT_extract rfl rfl); exact rfl)
              (refine WPY_one 13 (by decide +kernel) rfl guard_none (fun _ _ h => h) ?_)
              (first | (apply g_alloc; refine WO_alloc ?_; intro _))
              (refine WPY_one (H' := feet []) 15 (by decide +kernel) rfl guard_none (fun h => absurd h (by decide)) ?_)
              (first | (apply g_store; first | refine WO_store (k := 0) (l0 := []) rfl rfl rfl ?_))
              (refine WPY_one (H' := feet []) 16 (by decide +kernel) rfl guard_none (fun h => absurd h (by decide)) ?_)
              (first | (apply g_store; first | refine WO_store (k := 1) (l0 := []) rfl rfl rfl ?_))
              (refine WPY_one (H' := fun _ => True) 17 (by decide +kernel) rfl guard_none (fun _ _ _ => trivial) ?_)
              ((apply WO_t (H := fun _ => True); (first | exact WT_assign rfl); exact rfl))
              refine WPY_done (by decide +kernel) ?_
              first | exact cut_here (_, _) trivial (Leads_env (by repeat (first | exact sub_nil | refine sub_cons rfl ?_)) (List.Sublist.refl _)) | exact cut_here (_, _) trivial (Leads.trans (Leads_perm (List.Perm.swap _ _ _)) (Leads_env (by repeat (first | exact sub_nil | refine sub_cons rfl ?_)) (List.Sublist.refl _)))
            ·
              (first | (apply g_alloc; refine WO_alloc ?_; intro _))
              (refine WPY_one 8 (by decide +kernel) rfl guard_none (fun _ _ h => h) ?_)
              (first | (apply g_callf; first | (refine WO_callv (vs := []) (args := [_, _]) rfl Try.func28 rfl hA rfl ?_; rintro _ _ ⟨rfl, rfl⟩) | (refine WO_callv (vs := []) (args := [_, _]) rfl Try.func28 rfl hB rfl ?_; rintro _ _ ⟨rfl, rfl⟩) | (refine WO_call Try.func21 rfl h1 rfl ?_; rintro _ _ ⟨rfl, rfl⟩)))
              (apply WPY_pure 9 rfl (by decide +kernel) rfl (by repeat (first | exact np_ret)) guard_none; (first | exact WT_move rfl); exact rfl)
              (apply WPY_pure 10 rfl (by decide +kernel) rfl (by repeat (first | exact np_ret)) guard_none; (first | exact WT_extract rfl rfl); exact rfl)
              (apply WPY_pure 11 rfl (by decide +kernel) rfl (by repeat (first | exact np_ret)) guard_none; (first | exact WT_extract rfl rfl); exact rfl)
              (apply WPY_pure 12 rfl (by decide +kernel) rfl (by repeat (first | exact np_ret)) guard_none; (first | exact WT_extract rfl rfl); exact rfl)
              (refine WPY_one (H' := feet []) 15 (by decide +kernel) rfl guard_none (fun h => absurd h (by decide)) ?_)
              (first | (apply g_store; first | refine WO_store (k := 0) (l0 := []) rfl rfl rfl ?_))
              (refine WPY_one (H' := feet []) 16 (by decide +kernel) rfl guard_none (fun h => absurd h (by decide)) ?_)
              (first | (apply g_store; first | refine WO_store (k := 1) (l0 := []) rfl rfl rfl ?_))
              (refine WPY_one (H' := fun _ => True) 17 (by decide +kernel) rfl guard_none (fun _ _ _ => trivial) ?_)
              ((apply WO_t (H := fun _ => True); (first | exact WT_assign rfl); exact rfl))
              refine WPY_done (by decide +kernel) ?_
              first | exact cut_here (_, _) trivial (Leads_env (by repeat (first | exact sub_nil | refine sub_cons rfl ?_)) (List.Sublist.refl _)) | exact cut_here (_, _) trivial (Leads.trans (Leads_perm (List.Perm.swap _ _ _)) (Leads_env (by repeat (first | exact sub_nil | refine sub_cons rfl ?_)) (List.Sublist.refl _)))
          ·
            (first | (apply g_alloc; refine WO_alloc ?_; intro _))
            (refine WPY_one 6 (by decide +kernel) rfl guard_none (fun _ _ h => h) ?_)
            (first | (apply g_callf; first | (refine WO_callv (vs := []) (args := [_, _]) rfl Try.func28 rfl hA rfl ?_; rintro _ _ ⟨rfl, rfl⟩) | (refine WO_callv (vs := []) (args := [_, _]) rfl Try.func28 rfl hB rfl ?_; rintro _ _ ⟨rfl, rfl⟩) | (refine WO_call Try.func21 rfl h1 rfl ?_; rintro _ _ ⟨rfl, rfl⟩)))
            (refine WPY_one 8 (by decide +kernel) rfl guard_none (fun _ _ h => h) ?_)
            (first | (apply g_callf; first | (refine WO_callv (vs := []) (args := [_, _]) rfl Try.func28 rfl hA rfl ?_; rintro _ _ ⟨rfl, rfl⟩) | (refine WO_callv (vs := []) (args := [_, _]) rfl Try.func28 rfl hB rfl ?_; rintro _ _ ⟨rfl, rfl⟩) | (refine WO_call Try.func21 rfl h1 rfl ?_; rintro _ _ ⟨rfl, rfl⟩)))
            (apply WPY_pure 9 rfl (by decide +kernel) rfl (by repeat (first | exact np_ret)) guard_none; (first | exact WT_move rfl); exact rfl)
            (apply WPY_pure 10 rfl (by decide +kernel) rfl (by repeat (first | exact np_ret)) guard_none; (first | exact WT_extract rfl rfl); exact rfl)
            (apply WPY_pure 11 rfl (by decide +kernel) rfl (by repeat (first | exact np_ret)) guard_none; (first | exact WT_extract rfl rfl); exact rfl)
            (apply WPY_pure 12 rfl (by decide +kernel) rfl (by repeat (first | exact np_ret)) guard_none; (first | exact WT_extract rfl rfl); exact rfl)
            (refine WPY_one (H' := feet []) 15 (by decide +kernel) rfl guard_none (fun h => absurd h (by decide)) ?_)
            (first | (apply g_store; first | refine WO_store (k := 0) (l0 := []) rfl rfl rfl ?_))
            (refine WPY_one (H' := feet []) 16 (by decide +kernel) rfl guard_none (fun h => absurd h (by decide)) ?_)
            (first | (apply g_store; first | refine WO_store (k := 1) (l0 := []) rfl rfl rfl ?_))
            (refine WPY_one (H' := fun _ => True) 17 (by decide +kernel) rfl guard_none (fun _ _ _ => trivial) ?_)
            ((apply WO_t (H := fun _ => True); (first | exact WT_assign rfl); exact rfl))
            refine WPY_done (by decide +kernel) ?_
            first | exact cut_here (_, _) trivial (Leads_env (by repeat (first | exact sub_nil | refine sub_cons rfl ?_)) (List.Sublist.refl _)) | exact cut_here (_, _) trivial (Leads.trans (Leads_perm (List.Perm.swap _ _ _)) (Leads_env (by repeat (first | exact sub_nil | refine sub_cons rfl ?_)) (List.Sublist.refl _)))
      ·
        (first | (apply g_alloc; refine WO_alloc ?_; intro _))
        (refine WPY_two 4 14 (by decide +kernel) rfl guard_none (fun _ _ h => h) rfl guard_none (fun _ _ h => h) ?_ ?_)
        ·
          (first | (apply g_callf; first | (refine WO_callv (vs := []) (args := [_, _]) rfl Try.func28 rfl hA rfl ?_; rintro _ _ ⟨rfl, rfl⟩) | (refine WO_callv (vs := []) (args := [_, _]) rfl Try.func28 rfl hB rfl ?_; rintro _ _ ⟨rfl, rfl⟩) | (refine WO_call Try.func21 rfl h1 rfl ?_; rintro _ _ ⟨rfl, rfl⟩)))
          (refine WPY_two 6 14 (by decide +kernel) rfl guard_none (fun _ _ h => h) rfl guard_none (fun _ _ h => h) ?_ ?_)
          ·
            (first | (apply g_callf; first | (refine WO_callv (vs := []) (args := [_, _]) rfl Try.func28 rfl hA rfl ?_; rintro _ _ ⟨rfl, rfl⟩) | (refine WO_callv (vs := []) (args := [_, _]) rfl Try.func28 rfl hB rfl ?_; rintro _ _ ⟨rfl, rfl⟩) | (refine WO_call Try.func21 rfl h1 rfl ?_; rintro _ _ ⟨rfl, rfl⟩)))
            (refine WPY_two 8 14 (by decide +kernel) rfl guard_none (fun _ _ h => h) rfl guard_none (fun _ _ h => h) ?_ ?_)
            ·
              (first | (apply g_callf; first | (refine WO_callv (vs := []) (args := [_, _]) rfl Try.func28 rfl hA rfl ?_; rintro _ _ ⟨rfl, rfl⟩) | (refine WO_callv (vs := []) (args := [_, _]) rfl Try.func28 rfl hB rfl ?_; rintro _ _ ⟨rfl, rfl⟩) | (refine WO_call Try.func21 rfl h1 rfl ?_; rintro _ _ ⟨rfl, rfl⟩)))
              (apply WPY_pure 9 rfl (by decide +kernel) rfl (by repeat (first | exact np_ret)) guard_none; (first | exact WT_move rfl); exact rfl)
              (apply WPY_pure 10 rfl (by decide +kernel) rfl (by repeat (first | exact np_ret)) guard_none; (first | exact WT_extract rfl rfl); exact rfl)
              (apply WPY_pure 11 rfl (by decide +kernel) rfl (by repeat (first | exact np_ret)) guard_none; (first | exact WT_extract rfl rfl); exact rfl)
              (apply WPY_pure 12 rfl (by decide +kernel) rfl (by repeat (first | exact np_ret)) guard_none; (first | exact WT_extract rfl rfl); exact rfl)
              (refine WPY_one 14 (by decide +kernel) rfl guard_none (fun _ _ h => h) ?_)
              (first | (apply g_alloc; refine WO_alloc ?_; intro _))
              (refine WPY_one (H' := feet []) 15 (by decide +kernel) rfl guard_none (fun h => absurd h (by decide)) ?_)
              (first | (apply g_store; first | refine WO_store (k := 1) (l0 := []) rfl rfl rfl ?_))
              (refine WPY_one (H' := feet []) 16 (by decide +kernel) rfl guard_none (fun h => absurd h (by decide)) ?_)
              (first | (apply g_store; first | refine WO_store (k := 0) (l0 := []) rfl rfl rfl ?_))
              (refine WPY_one (H' := fun _ => True) 17 (by decide +kernel) rfl guard_none (fun _ _ _ => trivial) ?_)
              ((apply WO_t (H := fun _ => True); (first | exact WT_assign rfl); exact rfl))
              refine WPY_done (by decide +kernel) ?_
              first | exact cut_here (_, _) trivial (Leads_env (by repeat (first | exact sub_nil | refine sub_cons rfl ?_)) (List.Sublist.refl _)) | exact cut_here (_, _) trivial (Leads.trans (Leads_perm (List.Perm.swap _ _ _)) (Leads_env (by repeat (first | exact sub_nil | refine sub_cons rfl ?_)) (List.Sublist.refl _)))
            ·
              (first | (apply g_alloc; refine WO_alloc ?_; intro _))
              (refine WPY_one 8 (by decide +kernel) rfl guard_none (fun _ _ h => h) ?_)
              (first | (apply g_callf; first | (refine WO_callv (vs := []) (args := [_, _]) rfl Try.func28 rfl hA rfl ?_; rintro _ _ ⟨rfl, rfl⟩) | (refine WO_callv (vs := []) (args := [_, _]) rfl Try.func28 rfl hB rfl ?_; rintro _ _ ⟨rfl, rfl⟩) | (refine WO_call Try.func21 rfl h1 rfl ?_; rintro _ _ ⟨rfl, rfl⟩)))
              (apply WPY_pure 9 rfl (by decide +kernel) rfl (by repeat (first | exact np_ret)) guard_none; (first | exact WT_move rfl); exact rfl)
              (apply WPY_pure 10 rfl (by decide +kernel) rfl (by repeat (first | exact np_ret)) guard_none; (first | exact WT_extract rfl rfl); exact rfl)
              (apply WPY_pure 11 rfl (by decide +kernel) rfl (by repeat (first | exact np_ret)) guard_none; (first | exact WT_extract rfl rfl); exact rfl)
              (apply WPY_pure 12 rfl (by decide +kernel) rfl (by repeat (first | exact np_ret)) guard_none; (first | exact WT_extract rfl rfl); exact rfl)
              (refine WPY_one (H' := feet []) 15 (by decide +kernel) rfl guard_none (fun h => absurd h (by decide)) ?_)
              (first | (apply g_store; first | refine WO_store (k := 1) (l0 := []) rfl rfl rfl ?_))
              (refine WPY_one (H' := feet []) 16 (by decide +kernel) rfl guard_none (fun h => absurd h (by decide)) ?_)
              (first | (apply g_store; first | refine WO_store (k := 0) (l0 := []) rfl rfl rfl ?_))
              (refine WPY_one (H' := fun _ => True) 17 (by decide +kernel) rfl guard_none (fun _ _ _ => trivial) ?_)
              ((apply WO_t (H := fun _ => True); (first | exact WT_assign rfl); exact rfl))
              refine WPY_done (by decide +kernel) ?_
              first | exact cut_here (_, _) trivial (Leads_env (by repeat (first | exact sub_nil | refine sub_cons rfl ?_)) (List.Sublist.refl _)) | exact cut_here (_, _) trivial (Leads.trans (Leads_perm (List.Perm.swap _ _ _)) (Leads_env (by repeat (first | exact sub_nil | refine sub_cons rfl ?_)) (List.Sublist.refl _)))
          ·
            (first | (apply g_alloc; refine WO_alloc ?_; intro _))
            (refine WPY_one 6 (by decide +kernel) rfl guard_none (fun _ _ h => h) ?_)
            (first | (apply g_callf; first | (refine WO_callv (vs := []) (args := [_, _]) rfl Try.func28 rfl hA rfl ?_; rintro _ _ ⟨rfl, rfl⟩) | (refine WO_callv (vs := []) (args := [_, _]) rfl Try.func28 rfl hB rfl ?_; rintro _ _ ⟨rfl, rfl⟩) | (refine WO_call Try.func21 rfl h1 rfl ?_; rintro _ _ ⟨rfl, rfl⟩)))
            (refine WPY_one 8 (by decide +kernel) rfl guard_none (fun _ _ h => h) ?_)
            (first | (apply g_callf; first | (refine WO_callv (vs := []) (args := [_, _]) rfl Try.func28 rfl hA rfl ?_; rintro _ _ ⟨rfl, rfl⟩) | (refine WO_callv (vs := []) (args := [_, _]) rfl Try.func28 rfl hB rfl ?_; rintro _ _ ⟨rfl, rfl⟩) | (refine WO_call Try.func21 rfl h1 rfl ?_; rintro _ _ ⟨rfl, rfl⟩)))
            (apply WPY_pure 9 rfl (by decide +kernel) rfl (by repeat (first | exact np_ret)) guard_none; (first | exact WT_move rfl); exact rfl)
            (apply WPY_pure 10 rfl (by decide +kernel) rfl (by repeat (first | exact np_ret)) guard_none; (first | exact WT_extract rfl rfl); exact rfl)
            (apply WPY_pure 11 rfl (by decide +kernel) rfl (by repeat (first | exact np_ret)) guard_none; (first | exact WT_extract rfl rfl); exact rfl)
            (apply WPY_pure 12 rfl (by decide +kernel) rfl (by repeat (first | exact np_ret)) guard_none; (first | exact WT_extract rfl rfl); exact rfl)
            (refine WPY_one (H' := feet []) 15 (by decide +kernel) rfl guard_none (fun h => absurd h (by decide)) ?_)
            (first | (apply g_store; first | refine WO_store (k := 1) (l0 := []) rfl rfl rfl ?_))
            (refine WPY_one (H' := feet []) 16 (by decide +kernel) rfl guard_none (fun h => absurd h (by decide)) ?_)
            (first | (apply g_store; first | refine WO_store (k := 0) (l0 := []) rfl rfl rfl ?_))
            (refine WPY_one (H' := fun _ => True) 17 (by decide +kernel) rfl guard_none (fun _ _ _ => trivial) ?_)
            ((apply WO_t (H := fun _ => True); (first | exact WT_assign rfl); exact rfl))
            refine WPY_done (by decide +kernel) ?_
            first | exact cut_here (_, _) trivial (Leads_env (by repeat (first | exact sub_nil | refine sub_cons rfl ?_)) (List.Sublist.refl _)) | exact cut_here (_, _) trivial (Leads.trans (Leads_perm (List.Perm.swap _ _ _)) (Leads_env (by repeat (first | exact sub_nil | refine sub_cons rfl ?_)) (List.Sublist.refl _)))
        ·
          (first | (apply g_alloc; refine WO_alloc ?_; intro _))
          (refine WPY_one 4 (by decide +kernel) rfl guard_none (fun _ _ h => h) ?_)
          (first | (apply g_callf; first | (refine WO_callv (vs := []) (args := [_, _]) rfl Try.func28 rfl hA rfl ?_; rintro _ _ ⟨rfl, rfl⟩) | (refine WO_callv (vs := []) (args := [_, _]) rfl Try.func28 rfl hB rfl ?_; rintro _ _ ⟨rfl, rfl⟩) | (refine WO_call Try.func21 rfl h1 rfl ?_; rintro _ _ ⟨rfl, rfl⟩)))
          (refine WPY_one 6 (by decide +kernel) rfl guard_none (fun _ _ h => h) ?_)
          (first | (apply g_callf; first | (refine WO_callv (vs := []) (args := [_, _]) rfl Try.func28 rfl hA rfl ?_; rintro _ _ ⟨rfl, rfl⟩) | (refine WO_callv (vs := []) (args := [_, _]) rfl Try.func28 rfl hB rfl ?_; rintro _ _ ⟨rfl, rfl⟩) | (refine WO_call Try.func21 rfl h1 rfl ?_; rintro _ _ ⟨rfl, rfl⟩)))
          (refine WPY_one 8 (by decide +kernel) rfl guard_none (fun _ _ h => h) ?_)
          (first | (apply g_callf; first | (refine WO_callv (vs := []) (args := [_, _]) rfl Try.func28 rfl hA rfl ?_; rintro _ _ ⟨rfl, rfl⟩) | (refine WO_callv (vs := []) (args := [_, _]) rfl Try.func28 rfl hB rfl ?_; rintro _ _ ⟨rfl, rfl⟩) | (refine WO_call Try.func21 rfl h1 rfl ?_; rintro _ _ ⟨rfl, rfl⟩)))
          (apply WPY_pure 9 rfl (by decide +kernel) rfl (by repeat (first | exact np_ret)) guard_none; (first | exact WT_move rfl); exact rfl)
          (apply WPY_pure 10 rfl (by decide +kernel) rfl (by repeat (first | exact np_ret)) guard_none; (first | exact WT_extract rfl rfl); exact rfl)
          (apply WPY_pure 11 rfl (by decide +kernel) rfl (by repeat (first | exact np_ret)) guard_none; (first | exact WT_extract rfl rfl); exact rfl)
          (apply WPY_pure 12 rfl (by decide +kernel) rfl (by repeat (first | exact np_ret)) guard_none; (first | exact WT_extract rfl rfl); exact rfl)
          (refine WPY_one (H' := feet []) 15 (by decide +kernel) rfl guard_none (fun h => absurd h (by decide)) ?_)
          (first | (apply g_store; first | refine WO_store (k := 1) (l0 := []) rfl rfl rfl ?_))
          (refine WPY_one (H' := feet []) 16 (by decide +kernel) rfl guard_none (fun h => absurd h (by decide)) ?_)
          (first | (apply g_store; first | refine WO_store (k := 0) (l0 := []) rfl rfl rfl ?_))
          (refine WPY_one (H' := fun _ => True) 17 (by decide +kernel) rfl guard_none (fun _ _ _ => trivial) ?_)
          ((apply WO_t (H := fun _ => True); (first | exact WT_assign rfl); exact rfl))
          refine WPY_done (by decide +kernel) ?_
          first | exact cut_here (_, _) trivial (Leads_env (by repeat (first | exact sub_nil | refine sub_cons rfl ?_)) (List.Sublist.refl _)) | exact cut_here (_, _) trivial (Leads.trans (Leads_perm (List.Perm.swap _ _ _)) (Leads_env (by repeat (first | exact sub_nil | refine sub_cons rfl ?_)) (List.Sublist.refl _)))
      ·
        (first | (apply g_alloc; refine WO_alloc ?_; intro _))
        (refine WPY_two 4 13 (by decide +kernel) rfl guard_none (fun _ _ h => h) rfl guard_none (fun _ _ h => h) ?_ ?_)
        ·
          (first | (apply g_callf; first | (refine WO_callv (vs := []) (args := [_, _]) rfl Try.func28 rfl hA rfl ?_; rintro _ _ ⟨rfl, rfl⟩) | (refine WO_callv (vs := []) (args := [_, _]) rfl Try.func28 rfl hB rfl ?_; rintro _ _ ⟨rfl, rfl⟩) | (refine WO_call Try.func21 rfl h1 rfl ?_; rintro _ _ ⟨rfl, rfl⟩)))
          (refine WPY_two 6 13 (by decide +kernel) rfl guard_none (fun _ _ h => h) rfl guard_none (fun _ _ h => h) ?_ ?_)
          ·
            (first | (apply g_callf; first | (refine WO_callv (vs := []) (args := [_, _]) rfl Try.func28 rfl hA rfl ?_; rintro _ _ ⟨rfl, rfl⟩) | (refine WO_callv (vs := []) (args := [_, _]) rfl Try.func28 rfl hB rfl ?_; rintro _ _ ⟨rfl, rfl⟩) | (refine WO_call Try.func21 rfl h1 rfl ?_; rintro _ _ ⟨rfl, rfl⟩)))
            (refine WPY_two 8 13 (by decide +kernel) rfl guard_none (fun _ _ h => h) rfl guard_none (fun _ _ h => h) ?_ ?_)
            ·
              (first | (apply g_callf; first | (refine WO_callv (vs := []) (args := [_, _]) rfl Try.func28 rfl hA rfl ?_; rintro _ _ ⟨rfl, rfl⟩) | (refine WO_callv (vs := []) (args := [_, _]) rfl Try.func28 rfl hB rfl ?_; rintro _ _ ⟨rfl, rfl⟩) | (refine WO_call Try.func21 rfl h1 rfl ?_; rintro _ _ ⟨rfl, rfl⟩)))
              (apply WPY_pure 9 rfl (by decide +kernel) rfl (by repeat (first | exact np_ret)) guard_none; (first | exact WT_move rfl); exact rfl)
              (apply WPY_pure 10 rfl (by decide +kernel) rfl (by repeat (first | exact np_ret)) guard_none; (first | exact WT_extract rfl rfl); exact rfl)
              (apply WPY_pure 11 rfl (by decide +kernel) rfl (by repeat (first | exact np_ret)) guard_none; (first | exact WT_extract rfl rfl); exact rfl)
              (apply WPY_pure 12 rfl (by decide +kernel) rfl (by repeat (first | exact np_ret)) guard_none; (first | exact WT_extract rfl rfl); exact rfl)
              (refine WPY_one 13 (by decide +kernel) rfl guard_none (fun _ _ h => h) ?_)
              (first | (apply g_alloc; refine WO_alloc ?_; intro _))
              (refine WPY_one (H' := feet []) 15 (by decide +kernel) rfl guard_none (fun h => absurd h (by decide)) ?_)
              (first | (apply g_store; first | refine WO_store (k := 0) (l0 := []) rfl rfl rfl ?_))
              (refine WPY_one (H' := feet []) 16 (by decide +kernel) rfl guard_none (fun h => absurd h (by decide)) ?_)
              (first | (apply g_store; first | refine WO_store (k := 1) (l0 := []) rfl rfl rfl ?_))
              (refine WPY_one (H' := fun _ => True) 17 (by decide +kernel) rfl guard_none (fun _ _ _ => trivial) ?_)
              ((apply WO_t (H := fun _ => True); (first | exact WT_assign rfl); exact rfl))
              refine WPY_done (by decide +kernel) ?_
              first | exact cut_here (_, _) trivial (Leads_env (by repeat (first | exact sub_nil | refine sub_cons rfl ?_)) (List.Sublist.refl _)) | exact cut_here (_, _) trivial (Leads.trans (Leads_perm (List.Perm.swap _ _ _)) (Leads_env (by repeat (first | exact sub_nil | refine sub_cons rfl ?_)) (List.Sublist.refl _)))
            ·
              (first | (apply g_alloc; refine WO_alloc ?_; intro _))
              (refine WPY_one 8 (by decide +kernel) rfl guard_none (fun _ _ h => h) ?_)
              (first | (apply g_callf; first | (refine WO_callv (vs := []) (args := [_, _]) rfl Try.func28 rfl hA rfl ?_; rintro _ _ ⟨rfl, rfl⟩) | (refine WO_callv (vs := []) (args := [_, _]) rfl Try.func28 rfl hB rfl ?_; rintro _ _ ⟨rfl, rfl⟩) | (refine WO_call Try.func21 rfl h1 rfl ?_; rintro _ _ ⟨rfl, rfl⟩)))
              (apply WPY_pure 9 rfl (by decide +kernel) rfl (by repeat (first | exact np_ret)) guard_none; (first | exact WT_move rfl); exact rfl)
              (apply WPY_pure 10 rfl (by decide +kernel) rfl (by repeat (first | exact np_ret)) guard_none; (first | exact WT_extract rfl rfl); exact rfl)
              (apply WPY_pure 11 rfl (by decide +kernel) rfl (by repeat (first | exact np_ret)) guard_none; (first | exact WT_extract rfl rfl); exact rfl)
              (apply WPY_pure 12 rfl (by decide +kernel) rfl (by repeat (first | exact np_ret)) guard_none; (first | exact WT_extract rfl rfl); exact rfl)
              (refine WPY_one (H' := feet []) 15 (by decide +kernel) rfl guard_none (fun h => absurd h (by decide)) ?_)
              (first | (apply g_store; first | refine WO_store (k := 0) (l0 := []) rfl rfl rfl ?_))
              (refine WPY_one (H' := feet []) 16 (by decide +kernel) rfl guard_none (fun h => absurd h (by decide)) ?_)
              (first | (apply g_store; first | refine WO_store (k := 1) (l0 := []) rfl rfl rfl ?_))
              (refine WPY_one (H' := fun _ => True) 17 (by decide +kernel) rfl guard_none (fun _ _ _ => trivial) ?_)
              ((apply WO_t (H := fun _ => True); (first | exact WT_assign rfl); exact rfl))
              refine WPY_done (by decide +kernel) ?_
              first | exact cut_here (_, _) trivial (Leads_env (by repeat (first | exact sub_nil | refine sub_cons rfl ?_)) (List.Sublist.refl _)) | exact cut_here (_, _) trivial (Leads.trans (Leads_perm (List.Perm.swap _ _ _)) (Leads_env (by repeat (first | exact sub_nil | refine sub_cons rfl ?_)) (List.Sublist.refl _)))
          ·
            (first | (apply g_alloc; refine WO_alloc ?_; intro _))
            (refine WPY_one 6 (by decide +kernel) rfl guard_none (fun _ _ h => h) ?_)
            (first | (apply g_callf; first | (refine WO_callv (vs := []) (args := [_, _]) rfl Try.func28 rfl hA rfl ?_; rintro _ _ ⟨rfl, rfl⟩) | (refine WO_callv (vs := []) (args := [_, _]) rfl Try.func28 rfl hB rfl ?_; rintro _ _ ⟨rfl, rfl⟩) | (refine WO_call Try.func21 rfl h1 rfl ?_; rintro _ _ ⟨rfl, rfl⟩)))
            (refine WPY_one 8 (by decide +kernel) rfl guard_none (fun _ _ h => h) ?_)
            (first | (apply g_callf; first | (refine WO_callv (vs := []) (args := [_, _]) rfl Try.func28 rfl hA rfl ?_; rintro _ _ ⟨rfl, rfl⟩) | (refine WO_callv (vs := []) (args := [_, _]) rfl Try.func28 rfl hB rfl ?_; rintro _ _ ⟨rfl, rfl⟩) | (refine WO_call Try.func21 rfl h1 rfl ?_; rintro _ _ ⟨rfl, rfl⟩)))
            (apply WPY_pure 9 rfl (by decide +kernel) rfl (by repeat (first | exact np_ret)) guard_none; (first | exact WT_move rfl); exact rfl)
            (apply WPY_pure 10 rfl (by decide +kernel) rfl (by repeat (first | exact np_ret)) guard_none; (first | exact WT_extract rfl rfl); exact rfl)
            (apply WPY_pure 11 rfl (by decide +kernel) rfl (by repeat (first | exact np_ret)) guard_none; (first | exact WT_extract rfl rfl); exact rfl)
            (apply WPY_pure 12 rfl (by decide +kernel) rfl (by repeat (first | exact np_ret)) guard_none; (first | exact WT_extract rfl rfl); exact rfl)
            (refine WPY_one (H' := feet []) 15 (by decide +kernel) rfl guard_none (fun h => absurd h (by decide)) ?_)
            (first | (apply g_store; first | refine WO_store (k := 0) (l0 := []) rfl rfl rfl ?_))
            (refine WPY_one (H' := feet []) 16 (by decide +kernel) rfl guard_none (fun h => absurd h (by decide)) ?_)
            (first | (apply g_store; first | refine WO_store (k := 1) (l0 := []) rfl rfl rfl ?_))
            (refine WPY_one (H' := fun _ => True) 17 (by decide +kernel) rfl guard_none (fun _ _ _ => trivial) ?_)
            ((apply WO_t (H := fun _ => True); (first | exact WT_assign rfl); exact rfl))
            refine WPY_done (by decide +kernel) ?_
            first | exact cut_here (_, _) trivial (Leads_env (by repeat (first | exact sub_nil | refine sub_cons rfl ?_)) (List.Sublist.refl _)) | exact cut_here (_, _) trivial (Leads.trans (Leads_perm (List.Perm.swap _ _ _)) (Leads_env (by repeat (first | exact sub_nil | refine sub_cons rfl ?_)) (List.Sublist.refl _)))
        ·
          (first | (apply g_alloc; refine WO_alloc ?_; intro _))
          (refine WPY_one 4 (by decide +kernel) rfl guard_none (fun _ _ h => h) ?_)
          (first | (apply g_callf; first | (refine WO_callv (vs := []) (args := [_, _]) rfl Try.func28 rfl hA rfl ?_; rintro _ _ ⟨rfl, rfl⟩) | (refine WO_callv (vs := []) (args := [_, _]) rfl Try.func28 rfl hB rfl ?_; rintro _ _ ⟨rfl, rfl⟩) | (refine WO_call Try.func21 rfl h1 rfl ?_; rintro _ _ ⟨rfl, rfl⟩)))
          (refine WPY_one 6 (by decide +kernel) rfl guard_none (fun _ _ h => h) ?_)
          (first | (apply g_callf; first | (refine WO_callv (vs := []) (args := [_, _]) rfl Try.func28 rfl hA rfl ?_; rintro _ _ ⟨rfl, rfl⟩) | (refine WO_callv (vs := []) (args := [_, _]) rfl Try.func28 rfl hB rfl ?_; rintro _ _ ⟨rfl, rfl⟩) | (refine WO_call Try.func21 rfl h1 rfl ?_; rintro _ _ ⟨rfl, rfl⟩)))
          (refine WPY_one 8 (by decide +kernel) rfl guard_none (fun _ _ h => h) ?_)
          (first | (apply g_callf; first | (refine WO_callv (vs := []) (args := [_, _]) rfl Try.func28 rfl hA rfl ?_; rintro _ _ ⟨rfl, rfl⟩) | (refine WO_callv (vs := []) (args := [_, _]) rfl Try.func28 rfl hB rfl ?_; rintro _ _ ⟨rfl, rfl⟩) | (refine WO_call Try.func21 rfl h1 rfl ?_; rintro _ _ ⟨rfl, rfl⟩)))
          (apply WPY_pure 9 rfl (by decide +kernel) rfl (by repeat (first | exact np_ret)) guard_none; (first | exact WT_move rfl); exact rfl)
          (apply WPY_pure 10 rfl (by decide +kernel) rfl (by repeat (first | exact np_ret)) guard_none; (first | exact WT_extract rfl rfl); exact rfl)
          (apply WPY_pure 11 rfl (by decide +kernel) rfl (by repeat (first | exact np_ret)) guard_none; (first | exact WT_extract rfl rfl); exact rfl)
          (apply WPY_pure 12 rfl (by decide +kernel) rfl (by repeat (first | exact np_ret)) guard_none; (first | exact WT_extract rfl rfl); exact rfl)
          (refine WPY_one (H' := feet []) 15 (by decide +kernel) rfl guard_none (fun h => absurd h (by decide)) ?_)
          (first | (apply g_store; first | refine WO_store (k := 0) (l0 := []) rfl rfl rfl ?_))
          (refine WPY_one (H' := feet []) 16 (by decide +kernel) rfl guard_none (fun h => absurd h (by decide)) ?_)
          (first | (apply g_store; first | refine WO_store (k := 1) (l0 := []) rfl rfl rfl ?_))
          (refine WPY_one (H' := fun _ => True) 17 (by decide +kernel) rfl guard_none (fun _ _ _ => trivial) ?_)
          ((apply WO_t (H := fun _ => True); (first | exact WT_assign rfl); exact rfl))
          refine WPY_done (by decide +kernel) ?_
          first | exact cut_here (_, _) trivial (Leads_env (by repeat (first | exact sub_nil | refine sub_cons rfl ?_)) (List.Sublist.refl _)) | exact cut_here (_, _) trivial (Leads.trans (Leads_perm (List.Perm.swap _ _ _)) (Leads_env (by repeat (first | exact sub_nil | refine sub_cons rfl ?_)) (List.Sublist.refl _)))
    (repeat' (first | (apply cut_at 11; refine Stop.out ?_)))
    refine ⟨?_⟩
    refine WP_cutR 11 (fun y : Nat × Nat => ([(0, isl (eSl eByte) a), (1, isl (eSl eByte) b), (4, exB false), (5, ex (.pointer (some ⟨b5, 0, none⟩))), (6, exI .i64 0), (7, ex (.func (.func 28) #[] #[])), (8, ex (.pointer (some ⟨b8, 0, none⟩))), (9, exI .i64 0), (10, ex (.pointer (some ⟨z.1, 0, none⟩))), (11, ex (.pointer (some ⟨z.2, 0, none⟩))), (12, exI .i64 0), (13, ex (.pointer (some ⟨y.1, 0, none⟩))), (14, ex (.pointer (some ⟨y.2, 0, none⟩))), (15, exI .i64 0)], [row y.1 29 3 [isl (eSl eByte) oa, exI .i64 40, exI .i64 oa.length], row y.2 25 4 [isl (eSl eByte) D1.secs, isl eWr D1.pend, exI .i64 D1.left, exB D1.stopped], row z.1 29 3 [isl (eSl eByte) oab, exI .i64 40, exI .i64 oab.length], row z.2 25 4 [isl (eSl eByte) Dc.secs, isl eWr Dc.pend, exI .i64 Dc.left, exB Dc.stopped], row b8 29 3 [isl (eSl eByte) [], exI .i64 40, exI .i64 0], row b5 25 4 [isl (eSl eByte) D0.secs, isl eWr D0.pend, exI .i64 D0.left, exB D0.stopped]])) (fun _ => True) ?_ fun y _ => ?_
    ·
      (refine WP_drawl 12 rfl ?_)
      (apply WPY_pure 0 rfl (by decide +kernel) rfl (by repeat (first | exact np_ret)) guard_none; (first | exact WT_move rfl); exact rfl)
      (apply WPY_take 1 rfl (by decide +kernel) rfl (by decide +kernel) (by repeat (first | exact np_ret)) guard_none; (first | (apply g_load; first | exact WT_loada2 (k := 2) rfl rfl rfl)); exact rfl)
      (apply WPY_pure 2 rfl (by decide +kernel) rfl (by repeat (first | exact np_ret)) guard_none; (first | exact WT_move rfl); exact rfl)
      (apply WPY_take 4 rfl (by decide +kernel) rfl (by decide +kernel) (by repeat (first | exact np_ret)) guard_none; (first | (apply g_load; first | exact WT_loada2 (k := 3) rfl rfl rfl)); exact rfl)
      (refine WPY_three 3 10 11 (by decide +kernel) rfl guard_none (fun _ _ h => h) rfl guard_none (fun _ _ h => h) rfl guard_none (fun _ _ h => h) ?_ ?_ ?_)
      ·
        (first | (apply g_callf; first | (refine WO_callv (vs := []) (args := [_, _]) rfl Try.func28 rfl hA rfl ?_; rintro _ _ ⟨rfl, rfl⟩) | (refine WO_call Try.func21 rfl h2 rfl ?_; rintro _ _ ⟨rfl, rfl⟩)))
        (refine WPY_three 5 10 11 (by decide +kernel) rfl guard_none (fun _ _ h => h) rfl guard_none (fun _ _ h => h) rfl guard_none (fun _ _ h => h) ?_ ?_ ?_)
        ·
          (first | (apply g_callf; first | (refine WO_callv (vs := []) (args := [_, _]) rfl Try.func28 rfl hA rfl ?_; rintro _ _ ⟨rfl, rfl⟩) | (refine WO_call Try.func21 rfl h2 rfl ?_; rintro _ _ ⟨rfl, rfl⟩)))
          (apply WPY_pure 6 rfl (by decide +kernel) rfl (by repeat (first | exact np_ret)) guard_none; (first | exact WT_move rfl); exact rfl)
          (apply WPY_pure 7 rfl (by decide +kernel) rfl (by repeat (first | exact np_ret)) guard_none; (first | exact WT_extract rfl rfl); exact rfl)
          (apply WPY_pure 8 rfl (by decide +kernel) rfl (by repeat (first | exact np_ret)) guard_none; (first | exact WT_extract rfl rfl); exact rfl)
          (apply WPY_pure 9 rfl (by decide +kernel) rfl (by repeat (first | exact np_ret)) guard_none; (first | exact WT_extract rfl rfl); exact rfl)
          (refine WPY_two 10 11 (by decide +kernel) rfl guard_none (fun _ _ h => h) rfl guard_none (fun _ _ h => h) ?_ ?_)
          ·
            (first | (apply g_alloc; refine WO_alloc ?_; intro _))
            (refine WPY_one 11 (by decide +kernel) rfl guard_none (fun _ _ h => h) ?_)
            (first | (apply g_alloc; refine WO_alloc ?_; intro _))
            (refine WPY_one (H' := feet []) 12 (by decide +kernel) rfl guard_none (fun h => absurd h (by decide)) ?_)
            (first | (apply g_store; first | refine WO_store (k := 1) (l0 := []) rfl rfl rfl ?_))
            (refine WPY_one (H' := feet []) 13 (by decide +kernel) rfl guard_none (fun h => absurd h (by decide)) ?_)
            (first | (apply g_store; first | refine WO_store (k := 0) (l0 := []) rfl rfl rfl ?_))
            (refine WPY_one (H' := fun _ => True) 14 (by decide +kernel) rfl guard_none (fun _ _ _ => trivial) ?_)
            ((apply WO_t (H := fun _ => True); (first | exact WT_assign rfl); exact rfl))
            refine WPY_done (by decide +kernel) ?_
            first | exact cut_here (_, _) trivial (Leads_env (by repeat (first | exact sub_nil | refine sub_cons rfl ?_)) (List.Sublist.refl _)) | exact cut_here (_, _) trivial (Leads.trans (Leads_perm (List.Perm.swap _ _ _)) (Leads_env (by repeat (first | exact sub_nil | refine sub_cons rfl ?_)) (List.Sublist.refl _)))
          ·
            (first | (apply g_alloc; refine WO_alloc ?_; intro _))
            (refine WPY_one 10 (by decide +kernel) rfl guard_none (fun _ _ h => h) ?_)
            (first | (apply g_alloc; refine WO_alloc ?_; intro _))
            (refine WPY_one (H' := feet []) 12 (by decide +kernel) rfl guard_none (fun h => absurd h (by decide)) ?_)
            (first | (apply g_store; first | refine WO_store (k := 0) (l0 := []) rfl rfl rfl ?_))
            (refine WPY_one (H' := feet []) 13 (by decide +kernel) rfl guard_none (fun h => absurd h (by decide)) ?_)
            (first | (apply g_store; first | refine WO_store (k := 1) (l0 := []) rfl rfl rfl ?_))
            (refine WPY_one (H' := fun _ => True) 14 (by decide +kernel) rfl guard_none (fun _ _ _ => trivial) ?_)
            ((apply WO_t (H := fun _ => True); (first | exact WT_assign rfl); exact rfl))
            refine WPY_done (by decide +kernel) ?_
            first | exact cut_here (_, _) trivial (Leads_env (by repeat (first | exact sub_nil | refine sub_cons rfl ?_)) (List.Sublist.refl _)) | exact cut_here (_, _) trivial (Leads.trans (Leads_perm (List.Perm.swap _ _ _)) (Leads_env (by repeat (first | exact sub_nil | refine sub_cons rfl ?_)) (List.Sublist.refl _)))
        ·
          (first | (apply g_alloc; refine WO_alloc ?_; intro _))
          (refine WPY_two 5 11 (by decide +kernel) rfl guard_none (fun _ _ h => h) rfl guard_none (fun _ _ h => h) ?_ ?_)
          ·
            (first | (apply g_callf; first | (refine WO_callv (vs := []) (args := [_, _]) rfl Try.func28 rfl hA rfl ?_; rintro _ _ ⟨rfl, rfl⟩) | (refine WO_call Try.func21 rfl h2 rfl ?_; rintro _ _ ⟨rfl, rfl⟩)))
            (apply WPY_pure 6 rfl (by decide +kernel) rfl (by repeat (first | exact np_ret)) guard_none; (first | exact WT_move rfl); exact rfl)
            (apply WPY_pure 7 rfl (by decide +kernel) rfl (by repeat (first | exact np_ret)) guard_none; (first | exact WT_extract rfl rfl); exact rfl)
            (apply WPY_pure 8 rfl (by decide +kernel) rfl (by repeat (first | exact np_ret)) guard_none; (first | exact WT_extract rfl rfl); exact rfl)
            (apply WPY_pure 9 rfl (by decide +kernel) rfl (by repeat (first | exact np_ret)) guard_none; (first | exact WT_extract rfl rfl); exact rfl)
            (refine WPY_one 11 (by decide +kernel) rfl guard_none (fun _ _ h => h) ?_)
            (first | (apply g_alloc; refine WO_alloc ?_; intro _))
            (refine WPY_one (H' := feet []) 12 (by decide +kernel) rfl guard_none (fun h => absurd h (by decide)) ?_)
            (first | (apply g_store; first | refine WO_store (k := 1) (l0 := []) rfl rfl rfl ?_))
            (refine WPY_one (H' := feet []) 13 (by decide +kernel) rfl guard_none (fun h => absurd h (by decide)) ?_)
            (first | (apply g_store; first | refine WO_store (k := 0) (l0 := []) rfl rfl rfl ?_))
            (refine WPY_one (H' := fun _ => True) 14 (by decide +kernel) rfl guard_none (fun _ _ _ => trivial) ?_)
            ((apply WO_t (H := fun _ => True); (first | exact WT_assign rfl); exact rfl))
            refine WPY_done (by decide +kernel) ?_
            first | exact cut_here (_, _) trivial (Leads_env (by repeat (first | exact sub_nil | refine sub_cons rfl ?_)) (List.Sublist.refl _)) | exact cut_here (_, _) trivial (Leads.trans (Leads_perm (List.Perm.swap _ _ _)) (Leads_env (by repeat (first | exact sub_nil | refine sub_cons rfl ?_)) (List.Sublist.refl _)))
          ·
            (first | (apply g_alloc; refine WO_alloc ?_; intro _))
            (refine WPY_one 5 (by decide +kernel) rfl guard_none (fun _ _ h => h) ?_)
            (first | (apply g_callf; first | (refine WO_callv (vs := []) (args := [_, _]) rfl Try.func28 rfl hA rfl ?_; rintro _ _ ⟨rfl, rfl⟩) | (refine WO_call Try.func21 rfl h2 rfl ?_; rintro _ _ ⟨rfl, rfl⟩)))
            (apply WPY_pure 6 rfl (by decide +kernel) rfl (by repeat (first | exact np_ret)) guard_none; (first | exact WT_move rfl); exact rfl)
            (apply WPY_pure 7 rfl (by decide +kernel) rfl (by repeat (first | exact np_ret)) guard_none; (first | exact WT_extract rfl rfl); exact rfl)
            (apply WPY_pure 8 rfl (by decide +kernel) rfl (by repeat (first | exact np_ret)) guard_none; (first | exact WT_extract rfl rfl); exact rfl)
            (apply WPY_pure 9 rfl (by decide +kernel) rfl (by repeat (first | exact np_ret)) guard_none; (first | exact WT_extract rfl rfl); exact rfl)
            (refine WPY_one (H' := feet []) 12 (by decide +kernel) rfl guard_none (fun h => absurd h (by decide)) ?_)
            (first | (apply g_store; first | refine WO_store (k := 1) (l0 := []) rfl rfl rfl ?_))
            (refine WPY_one (H' := feet []) 13 (by decide +kernel) rfl guard_none (fun h => absurd h (by decide)) ?_)
            (first | (apply g_store; first | refine WO_store (k := 0) (l0 := []) rfl rfl rfl ?_))
            (refine WPY_one (H' := fun _ => True) 14 (by decide +kernel) rfl guard_none (fun _ _ _ => trivial) ?_)
            ((apply WO_t (H := fun _ => True); (first | exact WT_assign rfl); exact rfl))
            refine WPY_done (by decide +kernel) ?_
            first | exact cut_here (_, _) trivial (Leads_env (by repeat (first | exact sub_nil | refine sub_cons rfl ?_)) (List.Sublist.refl _)) | exact cut_here (_, _) trivial (Leads.trans (Leads_perm (List.Perm.swap _ _ _)) (Leads_env (by repeat (first | exact sub_nil | refine sub_cons rfl ?_)) (List.Sublist.refl _)))
        ·
          (first | (apply g_alloc; refine WO_alloc ?_; intro _))
          (refine WPY_two 5 10 (by decide +kernel) rfl guard_none (fun _ _ h => h) rfl guard_none (fun _ _ h => h) ?_ ?_)
          ·
            (first | (apply g_callf; first | (refine WO_callv (vs := []) (args := [_, _]) rfl Try.func28 rfl hA rfl ?_; rintro _ _ ⟨rfl, rfl⟩) | (refine WO_call Try.func21 rfl h2 rfl ?_; rintro _ _ ⟨rfl, rfl⟩)))
            (apply WPY_pure 6 rfl (by decide +kernel) rfl (by repeat (first | exact np_ret)) guard_none; (first | exact WT_move rfl); exact rfl)
            (apply WPY_pure 7 rfl (by decide +kernel) rfl (by repeat (first | exact np_ret)) guard_none; (first | exact WT_extract rfl rfl); exact rfl)
            (apply WPY_pure 8 rfl (by decide +kernel) rfl (by repeat (first | exact np_ret)) guard_none; (first | exact WT_extract rfl rfl); exact rfl)
            (apply WPY_pure 9 rfl (by decide +kernel) rfl (by repeat (first | exact np_ret)) guard_none; (first | exact WT_extract rfl rfl); exact rfl)
            (refine WPY_one 10 (by decide +kernel) rfl guard_none (fun _ _ h => h) ?_)
            (first | (apply g_alloc; refine WO_alloc ?_; intro _))
            (refine WPY_one (H' := feet []) 12 (by decide +kernel) rfl guard_none (fun h => absurd h (by decide)) ?_)
            (first | (apply g_store; first | refine WO_store (k := 0) (l0 := []) rfl rfl rfl ?_))
            (refine WPY_one (H' := feet []) 13 (by decide +kernel) rfl guard_none (fun h => absurd h (by decide)) ?_)
            (first | (apply g_store; first | refine WO_store (k := 1) (l0 := []) rfl rfl rfl ?_))
            (refine WPY_one (H' := fun _ => True) 14 (by decide +kernel) rfl guard_none (fun _ _ _ => trivial) ?_)
            ((apply WO_t (H := fun _ => True); (first | exact WT_assign rfl); exact rfl))
            refine WPY_done (by decide +kernel) ?_
            first | exact cut_here (_, _) trivial (Leads_env (by repeat (first | exact sub_nil | refine sub_cons rfl ?_)) (List.Sublist.refl _)) | exact cut_here (_, _) trivial (Leads.trans (Leads_perm (List.Perm.swap _ _ _)) (Leads_env (by repeat (first | exact sub_nil | refine sub_cons rfl ?_)) (List.Sublist.refl _)))
          ·
            (first | (apply g_alloc; refine WO_alloc ?_; intro _))
            (refine WPY_one 5 (by decide +kernel) rfl guard_none (fun _ _ h => h) ?_)
            (first | (apply g_callf; first | (refine WO_callv (vs := []) (args := [_, _]) rfl Try.func28 rfl hA rfl ?_; rintro _ _ ⟨rfl, rfl⟩) | (refine WO_call Try.func21 rfl h2 rfl ?_; rintro _ _ ⟨rfl, rfl⟩)))
            (apply WPY_pure 6 rfl (by decide +kernel) rfl (by repeat (first | exact np_ret)) guard_none; (first | exact WT_move rfl); exact rfl)
            (apply WPY_pure 7 rfl (by decide +kernel) rfl (by repeat (first | exact np_ret)) guard_none; (first | exact WT_extract rfl rfl); exact rfl)
            (apply WPY_pure 8 rfl (by decide +kernel) rfl (by repeat (first | exact np_ret)) guard_none; (first | exact WT_extract rfl rfl); exact rfl)
            (apply WPY_pure 9 rfl (by decide +kernel) rfl (by repeat (first | exact np_ret)) guard_none; (first | exact WT_extract rfl rfl); exact rfl)
            (refine WPY_one (H' := feet []) 12 (by decide +kernel) rfl guard_none (fun h => absurd h (by decide)) ?_)
            (first | (apply g_store; first | refine WO_store (k := 0) (l0 := []) rfl rfl rfl ?_))
            (refine WPY_one (H' := feet []) 13 (by decide +kernel) rfl guard_none (fun h => absurd h (by decide)) ?_)
            (first | (apply g_store; first | refine WO_store (k := 1) (l0 := []) rfl rfl rfl ?_))
            (refine WPY_one (H' := fun _ => True) 14 (by decide +kernel) rfl guard_none (fun _ _ _ => trivial) ?_)
            ((apply WO_t (H := fun _ => True); (first | exact WT_assign rfl); exact rfl))
            refine WPY_done (by decide +kernel) ?_
            first | exact cut_here (_, _) trivial (Leads_env (by repeat (first | exact sub_nil | refine sub_cons rfl ?_)) (List.Sublist.refl _)) | exact cut_here (_, _) trivial (Leads.trans (Leads_perm (List.Perm.swap _ _ _)) (Leads_env (by repeat (first | exact sub_nil | refine sub_cons rfl ?_)) (List.Sublist.refl _)))
      ·
        (first | (apply g_alloc; refine WO_alloc ?_; intro _))
        (refine WPY_two 3 11 (by decide +kernel) rfl guard_none (fun _ _ h => h) rfl guard_none (fun _ _ h => h) ?_ ?_)
        ·
          (first | (apply g_callf; first | (refine WO_callv (vs := []) (args := [_, _]) rfl Try.func28 rfl hA rfl ?_; rintro _ _ ⟨rfl, rfl⟩) | (refine WO_call Try.func21 rfl h2 rfl ?_; rintro _ _ ⟨rfl, rfl⟩)))
          (refine WPY_two 5 11 (by decide +kernel) rfl guard_none (fun _ _ h => h) rfl guard_none (fun _ _ h => h) ?_ ?_)
          ·
            (first | (apply g_callf; first | (refine WO_callv (vs := []) (args := [_, _]) rfl Try.func28 rfl hA rfl ?_; rintro _ _ ⟨rfl, rfl⟩) | (refine WO_call Try.func21 rfl h2 rfl ?_; rintro _ _ ⟨rfl, rfl⟩)))
            (apply WPY_pure 6 rfl (by decide +kernel) rfl (by repeat (first | exact np_ret)) guard_none; (first | exact WT_move rfl); exact rfl)
            (apply WPY_pure 7 rfl (by decide +kernel) rfl (by repeat (first | exact np_ret)) guard_none; (first | exact WT_extract rfl rfl); exact rfl)
            (apply WPY_pure 8 rfl (by decide +kernel) rfl (by repeat (first | exact np_ret)) guard_none; (first | exact WT_extract rfl rfl); exact rfl)
            (apply WPY_pure 9 rfl (by decide +kernel) rfl (by repeat (first | exact np_ret)) guard_none; (first | exact WT_extract rfl rfl); exact rfl)
            (refine WPY_one 11 (by decide +kernel) rfl guard_none (fun _ _ h => h) ?_)
            (first | (apply g_alloc; refine WO_alloc ?_; intro _))
            (refine WPY_one (H' := feet []) 12 (by decide +kernel) rfl guard_none (fun h => absurd h (by decide)) ?_)
            (first | (apply g_store; first | refine WO_store (k := 1) (l0 := []) rfl rfl rfl ?_))
            (refine WPY_one (H' := feet []) 13 (by decide +kernel) rfl guard_none (fun h => absurd h (by decide)) ?_)
            (first | (apply g_store; first | refine WO_store (k := 0) (l0 := []) rfl rfl rfl ?_))
            (refine WPY_one (H' := fun _ => True) 14 (by decide +kernel) rfl guard_none (fun _ _ _ => trivial) ?_)
            ((apply WO_t (H := fun _ => True); (first | exact WT_assign rfl); exact rfl))
            refine WPY_done (by decide +kernel) ?_
            first | exact cut_here (_, _) trivial (Leads_env (by repeat (first | exact sub_nil | refine sub_cons rfl ?_)) (List.Sublist.refl _)) | exact cut_here (_, _) trivial (Leads.trans (Leads_perm (List.Perm.swap _ _ _)) (Leads_env (by repeat (first | exact sub_nil | refine sub_cons rfl ?_)) (List.Sublist.refl _)))
          ·
            (first | (apply g_alloc; refine WO_alloc ?_; intro _))
            (refine WPY_one 5 (by decide +kernel) rfl guard_none (fun _ _ h => h) ?_)
            (first | (apply g_callf; first | (refine WO_callv (vs := []) (args := [_, _]) rfl Try.func28 rfl hA rfl ?_; rintro _ _ ⟨rfl, rfl⟩) | (refine WO_call Try.func21 rfl h2 rfl ?_; rintro _ _ ⟨rfl, rfl⟩)))
            (apply WPY_pure 6 rfl (by decide +kernel) rfl (by repeat (first | exact np_ret)) guard_none; (first | exact WT_move rfl); exact rfl)
            (apply WPY_pure 7 rfl (by decide +kernel) rfl (by repeat (first | exact np_ret)) guard_none; (first | exact WT_extract rfl rfl); exact rfl)
            (apply WPY_pure 8 rfl (by decide +kernel) rfl (by repeat (first | exact np_ret)) guard_none; (first | exact WT_extract rfl rfl); exact rfl)
            (apply WPY_pure 9 rfl (by decide +kernel) rfl (by repeat (first | exact np_ret)) guard_none; (first | exact WT_extract rfl rfl); exact rfl)
            (refine WPY_one (H' := feet []) 12 (by decide +kernel) rfl guard_none (fun h => absurd h (by decide)) ?_)
            (first | (apply g_store; first | refine WO_store (k := 1) (l0 := []) rfl rfl rfl ?_))
            (refine WPY_one (H' := feet []) 13 (by decide +kernel) rfl guard_none (fun h => absurd h (by decide)) ?_)
            (first | (apply g_store; first | refine WO_store (k := 0) (l0 := []) rfl rfl rfl ?_))
            (refine WPY_one (H' := fun _ => True) 14 (by decide +kernel) rfl guard_none (fun _ _ _ => trivial) ?_)
            ((apply WO_t (H := fun _ => True); (first | exact WT_assign rfl); exact rfl))
            refine WPY_done (by decide +kernel) ?_
            first | exact cut_here (_, _) trivial (Leads_env (by repeat (first | exact sub_nil | refine sub_cons rfl ?_)) (List.Sublist.refl _)) | exact cut_here (_, _) trivial (Leads.trans (Leads_perm (List.Perm.swap _ _ _)) (Leads_env (by repeat (first | exact sub_nil | refine sub_cons rfl ?_)) (List.Sublist.refl _)))
        ·
          (first | (apply g_alloc; refine WO_alloc ?_; intro _))
          (refine WPY_one 3 (by decide +kernel) rfl guard_none (fun _ _ h => h) ?_)
          (first | (apply g_callf; first | (refine WO_callv (vs := []) (args := [_, _]) rfl Try.func28 rfl hA rfl ?_; rintro _ _ ⟨rfl, rfl⟩) | (refine WO_call Try.func21 rfl h2 rfl ?_; rintro _ _ ⟨rfl, rfl⟩)))
          (refine WPY_one 5 (by decide +kernel) rfl guard_none (fun _ _ h => h) ?_)
          (first | (apply g_callf; first | (refine WO_callv (vs := []) (args := [_, _]) rfl Try.func28 rfl hA rfl ?_; rintro _ _ ⟨rfl, rfl⟩) | (refine WO_call Try.func21 rfl h2 rfl ?_; rintro _ _ ⟨rfl, rfl⟩)))
          (apply WPY_pure 6 rfl (by decide +kernel) rfl (by repeat (first | exact np_ret)) guard_none; (first | exact WT_move rfl); exact rfl)
          (apply WPY_pure 7 rfl (by decide +kernel) rfl (by repeat (first | exact np_ret)) guard_none; (first | exact WT_extract rfl rfl); exact rfl)
          (apply WPY_pure 8 rfl (by decide +kernel) rfl (by repeat (first | exact np_ret)) guard_none; (first | exact WT_extract rfl rfl); exact rfl)
          (apply WPY_pure 9 rfl (by decide +kernel) rfl (by repeat (first | exact np_ret)) guard_none; (first | exact WT_extract rfl rfl); exact rfl)
          (refine WPY_one (H' := feet []) 12 (by decide +kernel) rfl guard_none (fun h => absurd h (by decide)) ?_)
          (first | (apply g_store; first | refine WO_store (k := 1) (l0 := []) rfl rfl rfl ?_))
          (refine WPY_one (H' := feet []) 13 (by decide +kernel) rfl guard_none (fun h => absurd h (by decide)) ?_)
          (first | (apply g_store; first | refine WO_store (k := 0) (l0 := []) rfl rfl rfl ?_))
          (refine WPY_one (H' := fun _ => True) 14 (by decide +kernel) rfl guard_none (fun _ _ _ => trivial) ?_)
          ((apply WO_t (H := fun _ => True); (first | exact WT_assign rfl); exact rfl))
          refine WPY_done (by decide +kernel) ?_
          first | exact cut_here (_, _) trivial (Leads_env (by repeat (first | exact sub_nil | refine sub_cons rfl ?_)) (List.Sublist.refl _)) | exact cut_here (_, _) trivial (Leads.trans (Leads_perm (List.Perm.swap _ _ _)) (Leads_env (by repeat (first | exact sub_nil | refine sub_cons rfl ?_)) (List.Sublist.refl _)))
      ·
        (first | (apply g_alloc; refine WO_alloc ?_; intro _))
        (refine WPY_two 3 10 (by decide +kernel) rfl guard_none (fun _ _ h => h) rfl guard_none (fun _ _ h => h) ?_ ?_)
        ·
          (first | (apply g_callf; first | (refine WO_callv (vs := []) (args := [_, _]) rfl Try.func28 rfl hA rfl ?_; rintro _ _ ⟨rfl, rfl⟩) | (refine WO_call Try.func21 rfl h2 rfl ?_; rintro _ _ ⟨rfl, rfl⟩)))
          (refine WPY_two 5 10 (by decide +kernel) rfl guard_none (fun _ _ h => h) rfl guard_none (fun _ _ h => h) ?_ ?_)
          ·
            (first | (apply g_callf; first | (refine WO_callv (vs := []) (args := [_, _]) rfl Try.func28 rfl hA rfl ?_; rintro _ _ ⟨rfl, rfl⟩) | (refine WO_call Try.func21 rfl h2 rfl ?_; rintro _ _ ⟨rfl, rfl⟩)))
            (apply WPY_pure 6 rfl (by decide +kernel) rfl (by repeat (first | exact np_ret)) guard_none; (first | exact WT_move rfl); exact rfl)
            (apply WPY_pure 7 rfl (by decide +kernel) rfl (by repeat (first | exact np_ret)) guard_none; (first | exact WT_extract rfl rfl); exact rfl)
            (apply WPY_pure 8 rfl (by decide +kernel) rfl (by repeat (first | exact np_ret)) guard_none; (first | exact WT_extract rfl rfl); exact rfl)
            (apply WPY_pure 9 rfl (by decide +kernel) rfl (by repeat (first | exact np_ret)) guard_none; (first | exact WT_extract rfl rfl); exact rfl)
            (refine WPY_one 10 (by decide +kernel) rfl guard_none (fun _ _ h => h) ?_)
            (first | (apply g_alloc; refine WO_alloc ?_; intro _))
            (refine WPY_one (H' := feet []) 12 (by decide +kernel) rfl guard_none (fun h => absurd h (by decide)) ?_)
            (first | (apply g_store; first | refine WO_store (k := 0) (l0 := []) rfl rfl rfl ?_))
            (refine WPY_one (H' := feet []) 13 (by decide +kernel) rfl guard_none (fun h => absurd h (by decide)) ?_)
            (first | (apply g_store; first | refine WO_store (k := 1) (l0 := []) rfl rfl rfl ?_))
            (refine WPY_one (H' := fun _ => True) 14 (by decide +kernel) rfl guard_none (fun _ _ _ => trivial) ?_)
            ((apply WO_t (H := fun _ => True); (first | exact WT_assign rfl); exact rfl))
            refine WPY_done (by decide +kernel) ?_
            first | exact cut_here (_, _) trivial (Leads_env (by repeat (first | exact sub_nil | refine sub_cons rfl ?_)) (List.Sublist.refl _)) | exact cut_here (_, _) trivial (Leads.trans (Leads_perm (List.Perm.swap _ _ _)) (Leads_env (by repeat (first | exact sub_nil | refine sub_cons rfl ?_)) (List.Sublist.refl _)))
          ·
            (first | (apply g_alloc; refine WO_alloc ?_; intro _))
            (refine WPY_one 5 (by decide +kernel) rfl guard_none (fun _ _ h => h) ?_)
            (first | (apply g_callf; first | (refine WO_callv (vs := []) (args := [_, _]) rfl Try.func28 rfl hA rfl ?_; rintro _ _ ⟨rfl, rfl⟩) | (refine WO_call Try.func21 rfl h2 rfl ?_; rintro _ _ ⟨rfl, rfl⟩)))
            (apply WPY_pure 6 rfl (by decide +kernel) rfl (by repeat (first | exact np_ret)) guard_none; (first | exact WT_move rfl); exact rfl)
            (apply WPY_pure 7 rfl (by decide +kernel) rfl (by repeat (first | exact np_ret)) guard_none; (first | exact WT_extract rfl rfl); exact rfl)
            (apply WPY_pure 8 rfl (by decide +kernel) rfl (by repeat (first | exact np_ret)) guard_none; (first | exact WT_extract rfl rfl); exact rfl)
            (apply WPY_pure 9 rfl (by decide +kernel) rfl (by repeat (first | exact np_ret)) guard_none; (first | exact WT_extract rfl rfl); exact rfl)
            (refine WPY_one (H' := feet []) 12 (by decide +kernel) rfl guard_none (fun h => absurd h (by decide)) ?_)
            (first | (apply g_store; first | refine WO_store (k := 0) (l0 := []) rfl rfl rfl ?_))
            (refine WPY_one (H' := feet []) 13 (by decide +kernel) rfl guard_none (fun h => absurd h (by decide)) ?_)
            (first | (apply g_store; first | refine WO_store (k := 1) (l0 := []) rfl rfl rfl ?_))
            (refine WPY_one (H' := fun _ => True) 14 (by decide +kernel) rfl guard_none (fun _ _ _ => trivial) ?_)
            ((apply WO_t (H := fun _ => True); (first | exact WT_assign rfl); exact rfl))
            refine WPY_done (by decide +kernel) ?_
            first | exact cut_here (_, _) trivial (Leads_env (by repeat (first | exact sub_nil | refine sub_cons rfl ?_)) (List.Sublist.refl _)) | exact cut_here (_, _) trivial (Leads.trans (Leads_perm (List.Perm.swap _ _ _)) (Leads_env (by repeat (first | exact sub_nil | refine sub_cons rfl ?_)) (List.Sublist.refl _)))
        ·
          (first | (apply g_alloc; refine WO_alloc ?_; intro _))
          (refine WPY_one 3 (by decide +kernel) rfl guard_none (fun _ _ h => h) ?_)
          (first | (apply g_callf; first | (refine WO_callv (vs := []) (args := [_, _]) rfl Try.func28 rfl hA rfl ?_; rintro _ _ ⟨rfl, rfl⟩) | (refine WO_call Try.func21 rfl h2 rfl ?_; rintro _ _ ⟨rfl, rfl⟩)))
          (refine WPY_one 5 (by decide +kernel) rfl guard_none (fun _ _ h => h) ?_)
          (first | (apply g_callf; first | (refine WO_callv (vs := []) (args := [_, _]) rfl Try.func28 rfl hA rfl ?_; rintro _ _ ⟨rfl, rfl⟩) | (refine WO_call Try.func21 rfl h2 rfl ?_; rintro _ _ ⟨rfl, rfl⟩)))
          (apply WPY_pure 6 rfl (by decide +kernel) rfl (by repeat (first | exact np_ret)) guard_none; (first | exact WT_move rfl); exact rfl)
          (apply WPY_pure 7 rfl (by decide +kernel) rfl (by repeat (first | exact np_ret)) guard_none; (first | exact WT_extract rfl rfl); exact rfl)
          (apply WPY_pure 8 rfl (by decide +kernel) rfl (by repeat (first | exact np_ret)) guard_none; (first | exact WT_extract rfl rfl); exact rfl)
          (apply WPY_pure 9 rfl (by decide +kernel) rfl (by repeat (first | exact np_ret)) guard_none; (first | exact WT_extract rfl rfl); exact rfl)
          (refine WPY_one (H' := feet []) 12 (by decide +kernel) rfl guard_none (fun h => absurd h (by decide)) ?_)
          (first | (apply g_store; first | refine WO_store (k := 0) (l0 := []) rfl rfl rfl ?_))
          (refine WPY_one (H' := feet []) 13 (by decide +kernel) rfl guard_none (fun h => absurd h (by decide)) ?_)
          (first | (apply g_store; first | refine WO_store (k := 1) (l0 := []) rfl rfl rfl ?_))
          (refine WPY_one (H' := fun _ => True) 14 (by decide +kernel) rfl guard_none (fun _ _ _ => trivial) ?_)
          ((apply WO_t (H := fun _ => True); (first | exact WT_assign rfl); exact rfl))
          refine WPY_done (by decide +kernel) ?_
          first | exact cut_here (_, _) trivial (Leads_env (by repeat (first | exact sub_nil | refine sub_cons rfl ?_)) (List.Sublist.refl _)) | exact cut_here (_, _) trivial (Leads.trans (Leads_perm (List.Perm.swap _ _ _)) (Leads_env (by repeat (first | exact sub_nil | refine sub_cons rfl ?_)) (List.Sublist.refl _)))
    (repeat' (first | (apply cut_at 12; refine Stop.out ?_)))
    refine ⟨?_⟩
    refine WP_cutR 12 (fun x : Nat × Nat => ([(0, isl (eSl eByte) a), (1, isl (eSl eByte) b), (4, exB false), (5, ex (.pointer (some ⟨b5, 0, none⟩))), (6, exI .i64 0), (7, ex (.func (.func 28) #[] #[])), (8, ex (.pointer (some ⟨b8, 0, none⟩))), (9, exI .i64 0), (10, ex (.pointer (some ⟨z.1, 0, none⟩))), (11, ex (.pointer (some ⟨z.2, 0, none⟩))), (12, exI .i64 0), (13, ex (.pointer (some ⟨y.1, 0, none⟩))), (14, ex (.pointer (some ⟨y.2, 0, none⟩))), (15, exI .i64 0), (16, ex (.pointer (some ⟨x.1, 0, none⟩))), (17, ex (.pointer (some ⟨x.2, 0, none⟩))), (18, exI .i64 0)], [row x.1 29 3 [isl (eSl eByte) oab, exI .i64 40, exI .i64 oab.length], row x.2 25 4 [isl (eSl eByte) D2.secs, isl eWr D2.pend, exI .i64 D2.left, exB D2.stopped], row y.1 29 3 [isl (eSl eByte) oa, exI .i64 40, exI .i64 oa.length], row y.2 25 4 [isl (eSl eByte) D1.secs, isl eWr D1.pend, exI .i64 D1.left, exB D1.stopped], row z.1 29 3 [isl (eSl eByte) oab, exI .i64 40, exI .i64 oab.length], row z.2 25 4 [isl (eSl eByte) Dc.secs, isl eWr Dc.pend, exI .i64 Dc.left, exB Dc.stopped], row b8 29 3 [isl (eSl eByte) [], exI .i64 40, exI .i64 0], row b5 25 4 [isl (eSl eByte) D0.secs, isl eWr D0.pend, exI .i64 D0.left, exB D0.stopped]])) (fun _ => True) ?_ fun x _ => ?_
    ·
      (refine WP_drawl 12 rfl ?_)
      (apply WPY_pure 0 rfl (by decide +kernel) rfl (by repeat (first | exact np_ret)) guard_none; (first | exact WT_move rfl); exact rfl)
      (apply WPY_take 1 rfl (by decide +kernel) rfl (by decide +kernel) (by repeat (first | exact np_ret)) guard_none; (first | (apply g_load; first | exact WT_loada2 (k := 0) rfl rfl rfl)); exact rfl)
      (apply WPY_pure 2 rfl (by decide +kernel) rfl (by repeat (first | exact np_ret)) guard_none; (first | exact WT_move rfl); exact rfl)
      (apply WPY_take 4 rfl (by decide +kernel) rfl (by decide +kernel) (by repeat (first | exact np_ret)) guard_none; (first | (apply g_load; first | exact WT_loada2 (k := 1) rfl rfl rfl)); exact rfl)
      (refine WPY_three 3 10 11 (by decide +kernel) rfl guard_none (fun _ _ h => h) rfl guard_none (fun _ _ h => h) rfl guard_none (fun _ _ h => h) ?_ ?_ ?_)
      ·
        (first | (apply g_callf; first | (refine WO_callv (vs := []) (args := [_, _]) rfl Try.func28 rfl hB2 rfl ?_; rintro _ _ ⟨rfl, rfl⟩) | (refine WO_call Try.func21 rfl h3 rfl ?_; rintro _ _ ⟨rfl, rfl⟩)))
        (refine WPY_three 5 10 11 (by decide +kernel) rfl guard_none (fun _ _ h => h) rfl guard_none (fun _ _ h => h) rfl guard_none (fun _ _ h => h) ?_ ?_ ?_)
        ·
          (first | (apply g_callf; first | (refine WO_callv (vs := []) (args := [_, _]) rfl Try.func28 rfl hB2 rfl ?_; rintro _ _ ⟨rfl, rfl⟩) | (refine WO_call Try.func21 rfl h3 rfl ?_; rintro _ _ ⟨rfl, rfl⟩)))
          (apply WPY_pure 6 rfl (by decide +kernel) rfl (by repeat (first | exact np_ret)) guard_none; (first | exact WT_move rfl); exact rfl)
          (apply WPY_pure 7 rfl (by decide +kernel) rfl (by repeat (first | exact np_ret)) guard_none; (first | exact WT_extract rfl rfl); exact rfl)
          (apply WPY_pure 8 rfl (by decide +kernel) rfl (by repeat (first | exact np_ret)) guard_none; (first | exact WT_extract rfl rfl); exact rfl)
          (apply WPY_pure 9 rfl (by decide +kernel) rfl (by repeat (first | exact np_ret)) guard_none; (first | exact WT_extract rfl rfl); exact rfl)
          (refine WPY_two 10 11 (by decide +kernel) rfl guard_none (fun _ _ h => h) rfl guard_none (fun _ _ h => h) ?_ ?_)
          ·
            (first | (apply g_alloc; refine WO_alloc ?_; intro _))
            (refine WPY_one 11 (by decide +kernel) rfl guard_none (fun _ _ h => h) ?_)
            (first | (apply g_alloc; refine WO_alloc ?_; intro _))
            (refine WPY_one (H' := feet []) 12 (by decide +kernel) rfl guard_none (fun h => absurd h (by decide)) ?_)
            (first | (apply g_store; first | refine WO_store (k := 1) (l0 := []) rfl rfl rfl ?_))
            (refine WPY_one (H' := feet []) 13 (by decide +kernel) rfl guard_none (fun h => absurd h (by decide)) ?_)
            (first | (apply g_store; first | refine WO_store (k := 0) (l0 := []) rfl rfl rfl ?_))
            (refine WPY_one (H' := fun _ => True) 14 (by decide +kernel) rfl guard_none (fun _ _ _ => trivial) ?_)
            ((apply WO_t (H := fun _ => True); (first | exact WT_assign rfl); exact rfl))
            refine WPY_done (by decide +kernel) ?_
            first | exact cut_here (_, _) trivial (Leads_env (by repeat (first | exact sub_nil | refine sub_cons rfl ?_)) (List.Sublist.refl _)) | exact cut_here (_, _) trivial (Leads.trans (Leads_perm (List.Perm.swap _ _ _)) (Leads_env (by repeat (first | exact sub_nil | refine sub_cons rfl ?_)) (List.Sublist.refl _)))
          ·
            (first | (apply g_alloc; refine WO_alloc ?_; intro _))
            (refine WPY_one 10 (by decide +kernel) rfl guard_none (fun _ _ h => h) ?_)
            (first | (apply g_alloc; refine WO_alloc ?_; intro _))
            (refine WPY_one (H' := feet []) 12 (by decide +kernel) rfl guard_none (fun h => absurd h (by decide)) ?_)
            (first | (apply g_store; first | refine WO_store (k := 0) (l0 := []) rfl rfl rfl ?_))
            (refine WPY_one (H' := feet []) 13 (by decide +kernel) rfl guard_none (fun h => absurd h (by decide)) ?_)
            (first | (apply g_store; first | refine WO_store (k := 1) (l0 := []) rfl rfl rfl ?_))
            (refine WPY_one (H' := fun _ => True) 14 (by decide +kernel) rfl guard_none (fun _ _ _ => trivial) ?_)
            ((apply WO_t (H := fun _ => True); (first | exact WT_assign rfl); exact rfl))
            refine WPY_done (by decide +kernel) ?_
            first | exact cut_here (_, _) trivial (Leads_env (by repeat (first | exact sub_nil | refine sub_cons rfl ?_)) (List.Sublist.refl _)) | exact cut_here (_, _) trivial (Leads.trans (Leads_perm (List.Perm.swap _ _ _)) (Leads_env (by repeat (first | exact sub_nil | refine sub_cons rfl ?_)) (List.Sublist.refl _)))
        ·
          (first | (apply g_alloc; refine WO_alloc ?_; intro _))
          (refine WPY_two 5 11 (by decide +kernel) rfl guard_none (fun _ _ h => h) rfl guard_none (fun _ _ h => h) ?_ ?_)
          ·
            (first | (apply g_callf; first | (refine WO_callv (vs := []) (args := [_, _]) rfl Try.func28 rfl hB2 rfl ?_; rintro _ _ ⟨rfl, rfl⟩) | (refine WO_call Try.func21 rfl h3 rfl ?_; rintro _ _ ⟨rfl, rfl⟩)))
            (apply WPY_pure 6 rfl (by decide +kernel) rfl (by repeat (first | exact np_ret)) guard_none; (first | exact WT_move rfl); exact rfl)
            (apply WPY_pure 7 rfl (by decide +kernel) rfl (by repeat (first | exact np_ret)) guard_none; (first | exact WT_extract rfl rfl); exact rfl)
            (apply WPY_pure 8 rfl (by decide +kernel) rfl (by repeat (first | exact np_ret)) guard_none; (first | exact WT_extract rfl rfl); exact rfl)
            (apply WPY_pure 9 rfl (by decide +kernel) rfl (by repeat (first | exact np_ret)) guard_none; (first | exact WT_extract rfl rfl); exact rfl)
            (refine WPY_one 11 (by decide +kernel) rfl guard_none (fun _ _ h => h) ?_)
            (first | (apply g_alloc; refine WO_alloc ?_; intro _))
            (refine WPY_one (H' := feet []) 12 (by decide +kernel) rfl guard_none (fun h => absurd h (by decide)) ?_)
            (first | (apply g_store; first | refine WO_store (k := 1) (l0 := []) rfl rfl rfl ?_))
            (refine WPY_one (H' := feet []) 13 (by decide +kernel) rfl guard_none (fun h => absurd h (by decide)) ?_)
            (first | (apply g_store; first | refine WO_store (k := 0) (l0 := []) rfl rfl rfl ?_))
            (refine WPY_one (H' := fun _ => True) 14 (by decide +kernel) rfl guard_none (fun _ _ _ => trivial) ?_)
            ((apply WO_t (H := fun _ => True); (first | exact WT_assign rfl); exact rfl))
            refine WPY_done (by decide +kernel) ?_
            first | exact cut_here (_, _) trivial (Leads_env (by repeat (first | exact sub_nil | refine sub_cons rfl ?_)) (List.Sublist.refl _)) | exact cut_here (_, _) trivial (Leads.trans (Leads_perm (List.Perm.swap _ _ _)) (Leads_env (by repeat (first | exact sub_nil | refine sub_cons rfl ?_)) (List.Sublist.refl _)))
          ·
            (first | (apply g_alloc; refine WO_alloc ?_; intro _))
            (refine WPY_one 5 (by decide +kernel) rfl guard_none (fun _ _ h => h) ?_)
            (first | (apply g_callf; first | (refine WO_callv (vs := []) (args := [_, _]) rfl Try.func28 rfl hB2 rfl ?_; rintro _ _ ⟨rfl, rfl⟩) | (refine WO_call Try.func21 rfl h3 rfl ?_; rintro _ _ ⟨rfl, rfl⟩)))
            (apply WPY_pure 6 rfl (by decide +kernel) rfl (by repeat (first | exact np_ret)) guard_none; (first | exact WT_move rfl); exact rfl)
            (apply WPY_pure 7 rfl (by decide +kernel) rfl (by repeat (first | exact np_ret)) guard_none; (first | exact WT_extract rfl rfl); exact rfl)
            (apply WPY_pure 8 rfl (by decide +kernel) rfl (by repeat (first | exact np_ret)) guard_none; (first | exact WT_extract rfl rfl); exact rfl)
            (apply WPY_pure 9 rfl (by decide +kernel) rfl (by repeat (first | exact np_ret)) guard_none; (first | exact WT_extract rfl rfl); exact rfl)
            (refine WPY_one (H' := feet []) 12 (by decide +kernel) rfl guard_none (fun h => absurd h (by decide)) ?_)
            (first | (apply g_store; first | refine WO_store (k := 1) (l0 := []) rfl rfl rfl ?_))
            (refine WPY_one (H' := feet []) 13 (by decide +kernel) rfl guard_none (fun h => absurd h (by decide)) ?_)
            (first | (apply g_store; first | refine WO_store (k := 0) (l0 := []) rfl rfl rfl ?_))
            (refine WPY_one (H' := fun _ => True) 14 (by decide +kernel) rfl guard_none (fun _ _ _ => trivial) ?_)
            ((apply WO_t (H := fun _ => True); (first | exact WT_assign rfl); exact rfl))
            refine WPY_done (by decide +kernel) ?_
            first | exact cut_here (_, _) trivial (Leads_env (by repeat (first | exact sub_nil | refine sub_cons rfl ?_)) (List.Sublist.refl _)) | exact cut_here (_, _) trivial (Leads.trans (Leads_perm (List.Perm.swap _ _ _)) (Leads_env (by repeat (first | exact sub_nil | refine sub_cons rfl ?_)) (List.Sublist.refl _)))
        ·
          (first | (apply g_alloc; refine WO_alloc ?_; intro _))
          (refine WPY_two 5 10 (by decide +kernel) rfl guard_none (fun _ _ h => h) rfl guard_none (fun _ _ h => h) ?_ ?_)
          ·
            (first | (apply g_callf; first | (refine WO_callv (vs := []) (args := [_, _]) rfl Try.func28 rfl hB2 rfl ?_; rintro _ _ ⟨rfl, rfl⟩) | (refine WO_call Try.func21 rfl h3 rfl ?_; rintro _ _ ⟨rfl, rfl⟩)))
            (apply WPY_pure 6 rfl (by decide +kernel) rfl (by repeat (first | exact np_ret)) guard_none; (first | exact WT_move rfl); exact rfl)
            (apply WPY_pure 7 rfl (by decide +kernel) rfl (by repeat (first | exact np_ret)) guard_none; (first | exact WT_extract rfl rfl); exact rfl)
            (apply WPY_pure 8 rfl (by decide +kernel) rfl (by repeat (first | exact np_ret)) guard_none; (first | exact WT_extract rfl rfl); exact rfl)
            (apply WPY_pure 9 rfl (by decide +kernel) rfl (by repeat (first | exact np_ret)) guard_none; (first | exact WT_extract rfl rfl); exact rfl)
            (refine WPY_one 10 (by decide +kernel) rfl guard_none (fun _ _ h => h) ?_)
            (first | (apply g_alloc; refine WO_alloc ?_; intro _))
            (refine WPY_one (H' := feet []) 12 (by decide +kernel) rfl guard_none (fun h => absurd h (by decide)) ?_)
            (first | (apply g_store; first | refine WO_store (k := 0) (l0 := []) rfl rfl rfl ?_))
            (refine WPY_one (H' := feet []) 13 (by decide +kernel) rfl guard_none (fun h => absurd h (by decide)) ?_)
            (first | (apply g_store; first | refine WO_store (k := 1) (l0 := []) rfl rfl rfl ?_))
            (refine WPY_one (H' := fun _ => True) 14 (by decide +kernel) rfl guard_none (fun _ _ _ => trivial) ?_)
            ((apply WO_t (H := fun _ => True); (first | exact WT_assign rfl); exact rfl))
            refine WPY_done (by decide +kernel) ?_
            first | exact cut_here (_, _) trivial (Leads_env (by repeat (first | exact sub_nil | refine sub_cons rfl ?_)) (List.Sublist.refl _)) | exact cut_here (_, _) trivial (Leads.trans (Leads_perm (List.Perm.swap _ _ _)) (Leads_env (by repeat (first | exact sub_nil | refine sub_cons rfl ?_)) (List.Sublist.refl _)))
          ·
            (first | (apply g_alloc; refine WO_alloc ?_; intro _))
            (refine WPY_one 5 (by decide +kernel) rfl guard_none (fun _ _ h => h) ?_)
            (first | (apply g_callf; first | (refine WO_callv (vs := []) (args := [_, _]) rfl Try.func28 rfl hB2 rfl ?_; rintro _ _ ⟨rfl, rfl⟩) | (refine WO_call Try.func21 rfl h3 rfl ?_; rintro _ _ ⟨rfl, rfl⟩)))
            (apply WPY_pure 6 rfl (by decide +kernel) rfl (by repeat (first | exact np_ret)) guard_none; (first | exact WT_move rfl); exact rfl)
            (apply WPY_pure 7 rfl (by decide +kernel) rfl (by repeat (first | exact np_ret)) guard_none; (first | exact WT_extract rfl rfl); exact rfl)
            (apply WPY_pure 8 rfl (by decide +kernel) rfl (by repeat (first | exact np_ret)) guard_none; (first | exact WT_extract rfl rfl); exact rfl)
            (apply WPY_pure 9 rfl (by decide +kernel) rfl (by repeat (first | exact np_ret)) guard_none; (first | exact WT_extract rfl rfl); exact rfl)
            (refine WPY_one (H' := feet []) 12 (by decide +kernel) rfl guard_none (fun h => absurd h (by decide)) ?_)
            (first | (apply g_store; first | refine WO_store (k := 0) (l0 := []) rfl rfl rfl ?_))
            (refine WPY_one (H' := feet []) 13 (by decide +kernel) rfl guard_none (fun h => absurd h (by decide)) ?_)
            (first | (apply g_store; first | refine WO_store (k := 1) (l0 := []) rfl rfl rfl ?_))
            (refine WPY_one (H' := fun _ => True) 14 (by decide +kernel) rfl guard_none (fun _ _ _ => trivial) ?_)
            ((apply WO_t (H := fun _ => True); (first | exact WT_assign rfl); exact rfl))
            refine WPY_done (by decide +kernel) ?_
            first | exact cut_here (_, _) trivial (Leads_env (by repeat (first | exact sub_nil | refine sub_cons rfl ?_)) (List.Sublist.refl _)) | exact cut_here (_, _) trivial (Leads.trans (Leads_perm (List.Perm.swap _ _ _)) (Leads_env (by repeat (first | exact sub_nil | refine sub_cons rfl ?_)) (List.Sublist.refl _)))
      ·
        (first | (apply g_alloc; refine WO_alloc ?_; intro _))
        (refine WPY_two 3 11 (by decide +kernel) rfl guard_none (fun _ _ h => h) rfl guard_none (fun _ _ h => h) ?_ ?_)
        ·
          (first | (apply g_callf; first | (refine WO_callv (vs := []) (args := [_, _]) rfl Try.func28 rfl hB2 rfl ?_; rintro _ _ ⟨rfl, rfl⟩) | (refine WO_call Try.func21 rfl h3 rfl ?_; rintro _ _ ⟨rfl, rfl⟩)))
          (refine WPY_two 5 11 (by decide +kernel) rfl guard_none (fun _ _ h => h) rfl guard_none (fun _ _ h => h) ?_ ?_)
          ·
            (first | (apply g_callf; first | (refine WO_callv (vs := []) (args := [_, _]) rfl Try.func28 rfl hB2 rfl ?_; rintro _ _ ⟨rfl, rfl⟩) | (refine WO_call Try.func21 rfl h3 rfl ?_; rintro _ _ ⟨rfl, rfl⟩)))
            (apply WPY_pure 6 rfl (by decide +kernel) rfl (by repeat (first | exact np_ret)) guard_none; (first | exact WT_move rfl); exact rfl)
            (apply WPY_pure 7 rfl (by decide +kernel) rfl (by repeat (first | exact np_ret)) guard_none; (first | exact WT_extract rfl rfl); exact rfl)
            (apply WPY_pure 8 rfl (by decide +kernel) rfl (by repeat (first | exact np_ret)) guard_none; (first | exact WT_extract rfl rfl); exact rfl)
            (apply WPY_pure 9 rfl (by decide +kernel) rfl (by repeat (first | exact np_ret)) guard_none; (first | exact WT_extract rfl rfl); exact rfl)
            (refine WPY_one 11 (by decide +kernel) rfl guard_none (fun _ _ h => h) ?_)
            (first | (apply g_alloc; refine WO_alloc ?_; intro _))
            (refine WPY_one (H' := feet []) 12 (by decide +kernel) rfl guard_none (fun h => absurd h (by decide)) ?_)
            (first | (apply g_store; first | refine WO_store (k := 1) (l0 := []) rfl rfl rfl ?_))
            (refine WPY_one (H' := feet []) 13 (by decide +kernel) rfl guard_none (fun h => absurd h (by decide)) ?_)
            (first | (apply g_store; first | refine WO_store (k := 0) (l0 := []) rfl rfl rfl ?_))
            (refine WPY_one (H' := fun _ => True) 14 (by decide +kernel) rfl guard_none (fun _ _ _ => trivial) ?_)
            ((apply WO_t (H := fun _ => True); (first | exact WT_assign rfl); exact rfl))
            refine WPY_done (by decide +kernel) ?_
            first | exact cut_here (_, _) trivial (Leads_env (by repeat (first | exact sub_nil | refine sub_cons rfl ?_)) (List.Sublist.refl _)) | exact cut_here (_, _) trivial (Leads.trans (Leads_perm (List.Perm.swap _ _ _)) (Leads_env (by repeat (first | exact sub_nil | refine sub_cons rfl ?_)) (List.Sublist.refl _)))
          ·
            (first | (apply g_alloc; refine WO_alloc ?_; intro _))
            (refine WPY_one 5 (by decide +kernel) rfl guard_none (fun _ _ h => h) ?_)
            (first | (apply g_callf; first | (refine WO_callv (vs := []) (args := [_, _]) rfl Try.func28 rfl hB2 rfl ?_; rintro _ _ ⟨rfl, rfl⟩) | (refine WO_call Try.func21 rfl h3 rfl ?_; rintro _ _ ⟨rfl, rfl⟩)))
            (apply WPY_pure 6 rfl (by decide +kernel) rfl (by repeat (first | exact np_ret)) guard_none; (first | exact WT_move rfl); exact rfl)
            (apply WPY_pure 7 rfl (by decide +kernel) rfl (by repeat (first | exact np_ret)) guard_none; (first | exact WT_extract rfl rfl); exact rfl)
            (apply WPY_pure 8 rfl (by decide +kernel) rfl (by repeat (first | exact np_ret)) guard_none; (first | exact WT_extract rfl rfl); exact rfl)
            (apply WPY_pure 9 rfl (by decide +kernel) rfl (by repeat (first | exact np_ret)) guard_none; (first | exact WT_extract rfl rfl); exact rfl)
            (refine WPY_one (H' := feet []) 12 (by decide +kernel) rfl guard_none (fun h => absurd h (by decide)) ?_)
            (first | (apply g_store; first | refine WO_store (k := 1) (l0 := []) rfl rfl rfl ?_))
            (refine WPY_one (H' := feet []) 13 (by decide +kernel) rfl guard_none (fun h => absurd h (by decide)) ?_)
            (first | (apply g_store; first | refine WO_store (k := 0) (l0 := []) rfl rfl rfl ?_))
            (refine WPY_one (H' := fun _ => True) 14 (by decide +kernel) rfl guard_none (fun _ _ _ => trivial) ?_)
            ((apply WO_t (H := fun _ => True); (first | exact WT_assign rfl); exact rfl))
            refine WPY_done (by decide +kernel) ?_
            first | exact cut_here (_, _) trivial (Leads_env (by repeat (first | exact sub_nil | refine sub_cons rfl ?_)) (List.Sublist.refl _)) | exact cut_here (_, _) trivial (Leads.trans (Leads_perm (List.Perm.swap _ _ _)) (Leads_env (by repeat (first | exact sub_nil | refine sub_cons rfl ?_)) (List.Sublist.refl _)))
        ·
          (first | (apply g_alloc; refine WO_alloc ?_; intro _))
          (refine WPY_one 3 (by decide +kernel) rfl guard_none (fun _ _ h => h) ?_)
          (first | (apply g_callf; first | (refine WO_callv (vs := []) (args := [_, _]) rfl Try.func28 rfl hB2 rfl ?_; rintro _ _ ⟨rfl, rfl⟩) | (refine WO_call Try.func21 rfl h3 rfl ?_; rintro _ _ ⟨rfl, rfl⟩)))
          (refine WPY_one 5 (by decide +kernel) rfl guard_none (fun _ _ h => h) ?_)
          (first | (apply g_callf; first | (refine WO_callv (vs := []) (args := [_, _]) rfl Try.func28 rfl hB2 rfl ?_; rintro _ _ ⟨rfl, rfl⟩) | (refine WO_call Try.func21 rfl h3 rfl ?_; rintro _ _ ⟨rfl, rfl⟩)))
          (apply WPY_pure 6 rfl (by decide +kernel) rfl (by repeat (first | exact np_ret)) guard_none; (first | exact WT_move rfl); exact rfl)
          (apply WPY_pure 7 rfl (by decide +kernel) rfl (by repeat (first | exact np_ret)) guard_none; (first | exact WT_extract rfl rfl); exact rfl)
          (apply WPY_pure 8 rfl (by decide +kernel) rfl (by repeat (first | exact np_ret)) guard_none; (first | exact WT_extract rfl rfl); exact rfl)
          (apply WPY_pure 9 rfl (by decide +kernel) rfl (by repeat (first | exact np_ret)) guard_none; (first | exact WT_extract rfl rfl); exact rfl)
          (refine WPY_one (H' := feet []) 12 (by decide +kernel) rfl guard_none (fun h => absurd h (by decide)) ?_)
          (first | (apply g_store; first | refine WO_store (k := 1) (l0 := []) rfl rfl rfl ?_))
          (refine WPY_one (H' := feet []) 13 (by decide +kernel) rfl guard_none (fun h => absurd h (by decide)) ?_)
          (first | (apply g_store; first | refine WO_store (k := 0) (l0 := []) rfl rfl rfl ?_))
          (refine WPY_one (H' := fun _ => True) 14 (by decide +kernel) rfl guard_none (fun _ _ _ => trivial) ?_)
          ((apply WO_t (H := fun _ => True); (first | exact WT_assign rfl); exact rfl))
          refine WPY_done (by decide +kernel) ?_
          first | exact cut_here (_, _) trivial (Leads_env (by repeat (first | exact sub_nil | refine sub_cons rfl ?_)) (List.Sublist.refl _)) | exact cut_here (_, _) trivial (Leads.trans (Leads_perm (List.Perm.swap _ _ _)) (Leads_env (by repeat (first | exact sub_nil | refine sub_cons rfl ?_)) (List.Sublist.refl _)))
      ·
        (first | (apply g_alloc; refine WO_alloc ?_; intro _))
        (refine WPY_two 3 10 (by decide +kernel) rfl guard_none (fun _ _ h => h) rfl guard_none (fun _ _ h => h) ?_ ?_)
        ·
          (first | (apply g_callf; first | (refine WO_callv (vs := []) (args := [_, _]) rfl Try.func28 rfl hB2 rfl ?_; rintro _ _ ⟨rfl, rfl⟩) | (refine WO_call Try.func21 rfl h3 rfl ?_; rintro _ _ ⟨rfl, rfl⟩)))
          (refine WPY_two 5 10 (by decide +kernel) rfl guard_none (fun _ _ h => h) rfl guard_none (fun _ _ h => h) ?_ ?_)
          ·
            (first | (apply g_callf; first | (refine WO_callv (vs := []) (args := [_, _]) rfl Try.func28 rfl hB2 rfl ?_; rintro _ _ ⟨rfl, rfl⟩) | (refine WO_call Try.func21 rfl h3 rfl ?_; rintro _ _ ⟨rfl, rfl⟩)))
            (apply WPY_pure 6 rfl (by decide +kernel) rfl (by repeat (first | exact np_ret)) guard_none; (first | exact WT_move rfl); exact rfl)
            (apply WPY_pure 7 rfl (by decide +kernel) rfl (by repeat (first | exact np_ret)) guard_none; (first | exact WT_extract rfl rfl); exact rfl)
            (apply WPY_pure 8 rfl (by decide +kernel) rfl (by repeat (first | exact np_ret)) guard_none; (first | exact WT_extract rfl rfl); exact rfl)
            (apply WPY_pure 9 rfl (by decide +kernel) rfl (by repeat (first | exact np_ret)) guard_none; (first | exact WT_extract rfl rfl); exact rfl)
            (refine WPY_one 10 (by decide +kernel) rfl guard_none (fun _ _ h => h) ?_)
            (first | (apply g_alloc; refine WO_alloc ?_; intro _))
            (refine WPY_one (H' := feet []) 12 (by decide +kernel) rfl guard_none (fun h => absurd h (by decide)) ?_)
            (first | (apply g_store; first | refine WO_store (k := 0) (l0 := []) rfl rfl rfl ?_))
            (refine WPY_one (H' := feet []) 13 (by decide +kernel) rfl guard_none (fun h => absurd h (by decide)) ?_)
            (first | (apply g_store; first | refine WO_store (k := 1) (l0 := []) rfl rfl rfl ?_))
            (refine WPY_one (H' := fun _ => True) 14 (by decide +kernel) rfl guard_none (fun _ _ _ => trivial) ?_)
            ((apply WO_t (H := fun _ => True); (first | exact WT_assign rfl); exact rfl))
            refine WPY_done (by decide +kernel) ?_
            first | exact cut_here (_, _) trivial (Leads_env (by repeat (first | exact sub_nil | refine sub_cons rfl ?_)) (List.Sublist.refl _)) | exact cut_here (_, _) trivial (Leads.trans (Leads_perm (List.Perm.swap _ _ _)) (Leads_env (by repeat (first | exact sub_nil | refine sub_cons rfl ?_)) (List.Sublist.refl _)))
          ·
            (first | (apply g_alloc; refine WO_alloc ?_; intro _))
            (refine WPY_one 5 (by decide +kernel) rfl guard_none (fun _ _ h => h) ?_)
            (first | (apply g_callf; first | (refine WO_callv (vs := []) (args := [_, _]) rfl Try.func28 rfl hB2 rfl ?_; rintro _ _ ⟨rfl, rfl⟩) | (refine WO_call Try.func21 rfl h3 rfl ?_; rintro _ _ ⟨rfl, rfl⟩)))
            (apply WPY_pure 6 rfl (by decide +kernel) rfl (by repeat (first | exact np_ret)) guard_none; (first | exact WT_move rfl); exact rfl)
            (apply WPY_pure 7 rfl (by decide +kernel) rfl (by repeat (first | exact np_ret)) guard_none; (first | exact WT_extract rfl rfl); exact rfl)
            (apply WPY_pure 8 rfl (by decide +kernel) rfl (by repeat (first | exact np_ret)) guard_none; (first | exact WT_extract rfl rfl); exact rfl)
            (apply WPY_pure 9 rfl (by decide +kernel) rfl (by repeat (first | exact np_ret)) guard_none; (first | exact WT_extract rfl rfl); exact rfl)
            (refine WPY_one (H' := feet []) 12 (by decide +kernel) rfl guard_none (fun h => absurd h (by decide)) ?_)
            (first | (apply g_store; first | refine WO_store (k := 0) (l0 := []) rfl rfl rfl ?_))
            (refine WPY_one (H' := feet []) 13 (by decide +kernel) rfl guard_none (fun h => absurd h (by decide)) ?_)
            (first | (apply g_store; first | refine WO_store (k := 1) (l0 := []) rfl rfl rfl ?_))
            (refine WPY_one (H' := fun _ => True) 14 (by decide +kernel) rfl guard_none (fun _ _ _ => trivial) ?_)
            ((apply WO_t (H := fun _ => True); (first | exact WT_assign rfl); exact rfl))
            refine WPY_done (by decide +kernel) ?_
            first | exact cut_here (_, _) trivial (Leads_env (by repeat (first | exact sub_nil | refine sub_cons rfl ?_)) (List.Sublist.refl _)) | exact cut_here (_, _) trivial (Leads.trans (Leads_perm (List.Perm.swap _ _ _)) (Leads_env (by repeat (first | exact sub_nil | refine sub_cons rfl ?_)) (List.Sublist.refl _)))
        ·
          (first | (apply g_alloc; refine WO_alloc ?_; intro _))
          (refine WPY_one 3 (by decide +kernel) rfl guard_none (fun _ _ h => h) ?_)
          (first | (apply g_callf; first | (refine WO_callv (vs := []) (args := [_, _]) rfl Try.func28 rfl hB2 rfl ?_; rintro _ _ ⟨rfl, rfl⟩) | (refine WO_call Try.func21 rfl h3 rfl ?_; rintro _ _ ⟨rfl, rfl⟩)))
          (refine WPY_one 5 (by decide +kernel) rfl guard_none (fun _ _ h => h) ?_)
          (first | (apply g_callf; first | (refine WO_callv (vs := []) (args := [_, _]) rfl Try.func28 rfl hB2 rfl ?_; rintro _ _ ⟨rfl, rfl⟩) | (refine WO_call Try.func21 rfl h3 rfl ?_; rintro _ _ ⟨rfl, rfl⟩)))
          (apply WPY_pure 6 rfl (by decide +kernel) rfl (by repeat (first | exact np_ret)) guard_none; (first | exact WT_move rfl); exact rfl)
          (apply WPY_pure 7 rfl (by decide +kernel) rfl (by repeat (first | exact np_ret)) guard_none; (first | exact WT_extract rfl rfl); exact rfl)
          (apply WPY_pure 8 rfl (by decide +kernel) rfl (by repeat (first | exact np_ret)) guard_none; (first | exact WT_extract rfl rfl); exact rfl)
          (apply WPY_pure 9 rfl (by decide +kernel) rfl (by repeat (first | exact np_ret)) guard_none; (first | exact WT_extract rfl rfl); exact rfl)
          (refine WPY_one (H' := feet []) 12 (by decide +kernel) rfl guard_none (fun h => absurd h (by decide)) ?_)
          (first | (apply g_store; first | refine WO_store (k := 0) (l0 := []) rfl rfl rfl ?_))
          (refine WPY_one (H' := feet []) 13 (by decide +kernel) rfl guard_none (fun h => absurd h (by decide)) ?_)
          (first | (apply g_store; first | refine WO_store (k := 1) (l0 := []) rfl rfl rfl ?_))
          (refine WPY_one (H' := fun _ => True) 14 (by decide +kernel) rfl guard_none (fun _ _ _ => trivial) ?_)
          ((apply WO_t (H := fun _ => True); (first | exact WT_assign rfl); exact rfl))
          refine WPY_done (by decide +kernel) ?_
          first | exact cut_here (_, _) trivial (Leads_env (by repeat (first | exact sub_nil | refine sub_cons rfl ?_)) (List.Sublist.refl _)) | exact cut_here (_, _) trivial (Leads.trans (Leads_perm (List.Perm.swap _ _ _)) (Leads_env (by repeat (first | exact sub_nil | refine sub_cons rfl ?_)) (List.Sublist.refl _)))
    refine WP_leads (env' := [(4, exB false), (10, ex (.pointer (some ⟨z.1, 0, none⟩))), (11, ex (.pointer (some ⟨z.2, 0, none⟩))), (12, exI .i64 0), (15, exI .i64 0), (16, ex (.pointer (some ⟨x.1, 0, none⟩))), (17, ex (.pointer (some ⟨x.2, 0, none⟩))), (18, exI .i64 0)]) (loc' := [row x.1 29 3 [isl (eSl eByte) oab, exI .i64 40, exI .i64 oab.length], row x.2 25 4 [isl (eSl eByte) D2.secs, isl eWr D2.pend, exI .i64 D2.left, exB D2.stopped], row z.1 29 3 [isl (eSl eByte) oab, exI .i64 40, exI .i64 oab.length], row z.2 25 4 [isl (eSl eByte) Dc.secs, isl eWr Dc.pend, exI .i64 Dc.left, exB Dc.stopped]]) (Leads_env (by repeat (first | exact sub_nil | refine sub_cons rfl ?_)) (.cons_cons _ (.cons_cons _ (.cons _ (.cons _ (.cons_cons _ (.cons_cons _ (List.nil_sublist _)))))))) ?_
    (repeat' (first | refine WP_seq ?_ | refine WP_region ?_ | refine WPL_nil ?_ | (apply WPL_t; (first | exact WT_move rfl | exact WT_assign rfl | exact WT_pick (b := true) rfl (fun _ => rfl) (fun e => by cases e) | exact WT_extract rfl rfl | (apply g_load; first | exact WT_loada2 (k := 0) rfl rfl rfl | exact WT_loada2 (k := 1) rfl rfl rfl | exact WT_loada2 (k := 5) rfl rfl rfl) | (apply g_bin; first | exact WT_eql rfl rfl)); exact rfl) | (apply WPL_gt; exact rfl; exact rfl; exact rfl; (first | exact WT_move rfl | (apply g_load; first | exact WT_load (k := 0) rfl rfl rfl rfl | exact WT_load (k := 1) rfl rfl rfl rfl | exact WT_load (k := 6) rfl rfl rfl rfl | exact WT_loada2 (k := 2) rfl rfl rfl | exact WT_loada2 (k := 3) rfl rfl rfl | exact WT_loada2 (k := 4) rfl rfl rfl | exact WT_loada2 (k := 5) rfl rfl rfl | exact WT_loada2 (k := 6) rfl rfl rfl) | (apply g_fld; first | exact WT_field rfl rfl rfl) | (apply g_bin; first | exact WT_eql rfl rfl)); exact rfl) | refine WP_ret ?_ | (apply WPL_op0; exact rfl; first | (apply g_callf; first | (refine WO_call Try.func21 rfl h4 rfl ?_; rintro _ _ ⟨rfl, rfl⟩) | (refine WO_call Try.func12 rfl hOC rfl ?_; rintro _ _ ⟨rfl, rfl⟩) | (refine WO_call Try.func12 rfl hO2 rfl ?_; rintro _ _ ⟨rfl, rfl⟩)) | (apply g_alloc; refine WO_alloc ?_; intro _) | (apply g_store; first | refine WO_store (k := 0) (l0 := []) rfl rfl rfl ?_ | refine WO_store (k := 1) (l0 := []) rfl rfl rfl ?_)) | (apply WPL_on0; exact rfl; exact rfl; exact rfl; exact rfl; (apply g_callf; first | (refine WO_call Try.func14 rfl hS rfl ?_; rintro _ _ ⟨rfl, rfl⟩) | (refine WO_call Try.func24 rfl hE rfl ?_; rintro _ _ ⟨rfl, rfl⟩) | (refine WO_call Try.func23 rfl hT rfl ?_; rintro _ _ ⟨rfl, rfl⟩)))))
    all_goals (refine ⟨.inr rfl, ret1 rfl (.tmp rfl) (List.nil_sublist _) ⟨rfl, rfl⟩⟩)
  · have hfw' : fewF D0 (a ++ b) = false := by simpa using hfw
    rw [hfw'] at hF
    (repeat' (first | (apply cut_at 4; refine Stop.out ?_) | refine WP_seq ?_ | refine WP_region ?_ | refine WPL_nil ?_ | (apply WPL_t; (first | exact WT_move rfl | exact WT_assign rfl | exact WT_extract rfl rfl | (apply g_un; first | exact WT_not rfl)); exact rfl) | refine WP_skip ?_ | refine WP_cond_f rfl ?_ | (apply WPL_op0; exact rfl; first | (apply g_callf; first | (refine WO_call Try.func10 rfl sane_any rfl ?_; rintro _ _ ⟨rfl, rfl⟩) | (refine WO_call Try.func25 rfl hN rfl ?_; rintro _ _ ⟨rfl, rfl⟩)) | (apply g_alloc; refine WO_alloc ?_; intro _) | (apply g_store; first | refine WO_store (k := 0) (l0 := []) rfl rfl rfl ?_))))
    refine ⟨?_⟩
    rename_i b5
    refine WP_seq ?_
    (refine WP_drawl 8 rfl ?_)
    (repeat' (first | (refine WPY_leads (by decide +kernel) (Leads_fvec (k := 0) (E := eSl eByte) (t := 40) (a ++ b) rfl rfl (flat_two a b) (by simp)) ?_) | refine WPY_done (by decide +kernel) ?_ | (apply WPY_pure 0 rfl (by decide +kernel) rfl (by repeat (first | exact np_ret)) guard_none) | (apply WPY_pure 1 rfl (by decide +kernel) rfl (by repeat (first | exact np_ret)) guard_none) | (apply WPY_pure 2 rfl (by decide +kernel) rfl (by repeat (first | exact np_ret)) guard_none) | (apply WPY_pure 5 rfl (by decide +kernel) rfl (by repeat (first | exact np_ret)) (guard_some rfl rfl rfl)) | (apply WPY_pure 7 rfl (by decide +kernel) rfl (by repeat (first | exact np_ret)) (guard_some rfl rfl rfl)) | (refine WPY_one 6 (by decide +kernel) rfl (guard_some rfl rfl rfl) (fun _ _ h => h) ?_) | (refine WPY_one (H' := fun _ => True) 11 (by decide +kernel) rfl guard_none (fun _ _ _ => trivial) ?_) | (refine WPY_one (H' := feet []) 8 (by decide +kernel) rfl (guard_some rfl rfl rfl) (fun h => absurd h (by decide)) ?_) | (refine WPY_one 4 (by decide +kernel) rfl (guard_some rfl rfl rfl) (fun _ _ h => h) ?_) | (refine WPY_one (H' := fun _ => True) 10 (by decide +kernel) rfl (guard_some rfl rfl rfl) (fun _ _ _ => trivial) ?_) | (refine WPY_one (H' := fun _ => True) 3 (by decide +kernel) rfl (guard_some rfl rfl rfl) (fun _ _ _ => trivial) ?_) | (refine WPY_one (H' := feet []) 9 (by decide +kernel) rfl (guard_some rfl rfl rfl) (fun h => absurd h (by decide)) ?_) | (refine WPY_two (H1 := fun _ => True) (H2 := feet []) 3 8 (by decide +kernel) rfl (guard_some rfl rfl rfl) (fun _ _ _ => trivial) rfl (guard_some rfl rfl rfl) (fun h => absurd h (by decide)) ?_ ?_) | (refine WPY_two (H1 := fun _ => True) 3 4 (by decide +kernel) rfl (guard_some rfl rfl rfl) (fun _ _ _ => trivial) rfl (guard_some rfl rfl rfl) (fun _ _ h => h) ?_ ?_) | (refine WPY_two (H1 := fun _ => True) 3 6 (by decide +kernel) rfl (guard_some rfl rfl rfl) (fun _ _ _ => trivial) rfl (guard_some rfl rfl rfl) (fun _ _ h => h) ?_ ?_) | (apply WO_t (H := fun _ => True)) | (apply g_callf; first | (refine WO_call Try.func11 rfl hF rfl ?_; rintro _ _ ⟨rfl, rfl⟩)) | (apply g_append; (first | (refine WO_append (k := 0) (l0 := []) rfl rfl (by first | exact Src_isl rfl) rfl ?_) | (refine WO_append_row (k := 0) (l0 := _) rfl rfl rfl rfl (by first | exact Src_isl rfl) rfl ?_ (hH := List.Sublist.refl _))); intro _) | (apply g_bslice; (first | refine WO_bslice0 rfl ?_); intro _) | (apply blt_h; exact rfl) | (first | exact WT_move rfl | exact WT_pick (b := false) rfl (fun e => by cases e) (fun _ => rfl) | (apply g_load; first | exact WT_loada2 (k := 0) rfl rfl rfl | exact WT_loada2 (k := 1) rfl rfl rfl) | (apply g_bin; first | exact WT_neq rfl rfl) | (apply g_un; first | exact WT_not rfl))))
    all_goals ((repeat' (first | refine WP_seq ?_ | refine WP_region ?_ | refine WPL_nil ?_ | (apply WPL_t; (first | exact WT_move rfl | exact WT_assign rfl | (apply g_bin; first | exact WT_eql rfl rfl)); exact rfl) | refine WP_ret ?_ | refine WP_cond_t rfl ?_)))
    all_goals (refine ⟨.inr rfl, ret1 rfl (.tmp rfl) (List.nil_sublist _) ⟨rfl, rfl⟩⟩)

theorem steps_run (W : World) (a1 : Option Addr) (n1 c1 : Nat) (a : List (List UInt8)) (a2 : Option Addr) (n2 c2 : Nat) (b : List (List UInt8)) (h1 : Sl (eSl eByte) (fun _ => True) W a1 n1 c1 a) (s1 : SmallR a) (h2 : Sl (eSl eByte) (fun _ => True) W a2 n2 c2 b) (s2 : SmallR b) :
    Calls Try.prog 8 #[.slice a1 n1 c1, .slice a2 n2 c2] W fun e w' => e = .returned (.bool true) ∧ Below W.heap.size W w' :=
  law_of (steps_any a b s1 s2) (.cons ⟨a1, n1, c1, rfl, h1⟩ (.cons ⟨a2, n2, c2, rfl, h2⟩ .nil))

end Go.Proofs.Ytmghnjahjeinnaa
