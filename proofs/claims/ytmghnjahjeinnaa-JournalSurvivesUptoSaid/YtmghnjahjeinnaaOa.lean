/- JournalSteps: the function that appends what fits. -/
import Derived.Test.YtmghnjahjeinnaaNc
import Derived.Test.YtmghnjahjeinnaaLd
namespace Go.Proofs.Ytmghnjahjeinnaa
open Go Go.RowKit Go.Kx Go.Fr

/-- Append, where it fits. -/
def addS (m s : Int) (o : List (List UInt8)) (b : List UInt8) : List (List UInt8) := if (appF o m s b).2 = 0 then o ++ [b] else o
def addF (m s : Int) (o l : List (List UInt8)) : List (List UInt8) := l.foldl (addS m s) o
theorem addF_take (m s : Int) (o l : List (List UInt8)) (k : Nat) (h : k < l.length) : addF m s o (l.take (k + 1)) = addS m s (addF m s o (l.take k)) l[k] := by
  unfold addF; rw [List.take_succ_eq_append_getElem h, List.foldl_append]; rfl
theorem appF_cases (o : List (List UInt8)) (m s : Int) (b : List UInt8) : (appF o m s b = ((o ++ [b], m, s), 0) ∧ addS m s o b = o ++ [b]) ∨ ∃ e, e ≠ 0 ∧ appF o m s b = (([], 0, 0), e) ∧ addS m s o b = o := by
  unfold addS appF
  split
  · split
    · exact .inr ⟨2, by decide, rfl, rfl⟩
    · exact .inl ⟨rfl, rfl⟩
  · exact .inr ⟨1, by decide, rfl, rfl⟩
theorem addS_len (m s : Int) (o : List (List UInt8)) (b : List UInt8) : (addS m s o b).length ≤ o.length + 1 := by
  unfold addS; split
  · simp
  · omega
theorem addS_all {P : List UInt8 → Prop} {m s : Int} {o : List (List UInt8)} {b : List UInt8} (ho : ∀ x ∈ o, P x) (hb : P b) : ∀ x ∈ addS m s o b, P x := by
  unfold addS; split
  · intro x hx
    rcases List.mem_append.1 hx with h | h
    · exact ho x h
    · rw [List.mem_singleton] at h; rw [h]; exact hb
  · exact ho
theorem addF_len (m s : Int) : ∀ (l o : List (List UInt8)), (addF m s o l).length ≤ o.length + l.length
  | [], o => Nat.le_refl _
  | b :: r, o => by
    have h1 := addF_len m s r (addS m s o b)
    have h2 := addS_len m s o b
    simp only [addF, List.foldl_cons, List.length_cons] at h1 ⊢
    omega
theorem addF_all {P : List UInt8 → Prop} {m s : Int} : ∀ (l o : List (List UInt8)), (∀ x ∈ o, P x) → (∀ x ∈ l, P x) → ∀ x ∈ addF m s o l, P x
  | [], o, ho, _ => ho
  | b :: r, o, ho, hl => addF_all r (addS m s o b) (addS_all ho (hl b (by simp))) fun x hx => hl x (List.mem_cons_of_mem _ hx)

set_option maxHeartbeats 2000000 in
set_option maxRecDepth 100000 in
theorem add_any (o : List (List UInt8)) (m s : Int) (l : List (List UInt8)) (ho : o.length + l.length < 2 ^ 20) (hall : ∀ b ∈ o, b.length < 2 ^ 40) (hl : ∀ b ∈ l, b.length < 2 ^ 40) : FnC Try.prog 28 [jr o m s, isl (eSl eByte) l] [] (fun p loc => p = jr (addF m s o l) m s ∧ loc = []) := by
  refine FnC_enter Try.func28 rfl Try.ntmps28 rfl fun w0 F0 out => ?_
  (repeat' (first | refine WP_seq ?_ | refine WP_region ?_ | refine WPL_nil ?_ | (apply WPL_t; (first | exact WT_move rfl | (apply g_call; first | exact WT_len rfl rfl)); exact rfl) | refine WP_block ?_ | (apply WPL_op0; exact rfl; first | (apply g_box; refine WO_box rfl ?_; intro _) | (apply g_alloc; refine WO_alloc ?_; intro _))))
  rename_i b2 b4
  refine WP_loop (fun k : Nat => ([(2, ex (.pointer (some ⟨b2, 0, none⟩))), (4, ex (.pointer (some ⟨b4, 0, none⟩))), (9, isl (eSl eByte) l), (10, exI .i64 l.length), (11, exI .i64 k)], [row b4 29 3 [ex (.slice none 0 0), exI .i64 0, exI .i64 0], row b2 29 3 [isl (eSl eByte) (addF m s o (l.take k)), exI .i64 m, exI .i64 s]])) (fun k => k ≤ l.length) (fun k => l.length - k) 0 ?_ (by omega) fun k hk => ?_
  · exact Leads_env (by repeat (first | exact sub_nil | refine sub_cons rfl ?_)) (List.Sublist.refl _)
  by_cases hlt : k < l.length
  · have hcur := addF_len m s (l.take k) o
    have hcall := addF_all (P := fun b => b.length < 2 ^ 40) (m := m) (s := s) (l.take k) o hall (fun x hx => hl x (List.mem_of_mem_take hx))
    have hnext := addF_take m s o l k hlt
    rw [List.length_take] at hcur
    have hbl := hl _ (List.getElem_mem hlt)
    generalize addF m s o (l.take k) = cur at *
    have hA := append_any cur m s l[k] (by omega) hcall hbl
    rcases appF_cases cur m s l[k] with ⟨e1, e2⟩ | ⟨e, he, e1, e2⟩
    · rw [e1] at hA
      rw [e2] at hnext
      dsimp only at hA
      (repeat' (first | refine WP_seq ?_ | refine WP_region ?_ | refine WPL_nil ?_ | (apply WPL_t; (first | exact WT_move rfl | exact WT_assign rfl | exact WT_extract rfl rfl | (apply g_load; first | exact WT_loadf rfl rfl | exact WT_loada2 (k := 0) rfl rfl rfl | exact WT_loada2 (k := 1) rfl rfl rfl) | (apply g_bin; first | exact WT_lss rfl rfl | exact WT_eql rfl rfl | exact WT_add rfl rfl) | (apply g_index; first | exact WT_index rfl rfl rfl)); exact rfl) | refine WP_block ?_ | refine WP_skip ?_ | refine WP_cond_t rfl ?_ | (apply WPL_op0; exact rfl; first | (apply g_callf; first | (refine WO_call Try.func15 rfl hA rfl ?_; rintro _ _ ⟨rfl, rfl⟩)) | (apply g_alloc; refine WO_alloc ?_; intro _) | (apply g_store; first | refine WO_store (k := 0) (l0 := []) rfl rfl rfl ?_ | refine WO_store (k := 2) (l0 := []) rfl rfl rfl ?_)) | (refine WP_cond rfl (fun hb => ?_) (fun hb => ?_) <;> (repeat (first | replace hb := dec_t hb | replace hb := dec_f hb)) <;> (try (exfalso; first | omega)))))
      refine ⟨k + 1, by omega, by omega, ?_⟩
      dsimp only
      rw [hnext]
      exact Leads_env (by repeat (first | exact sub_nil | refine sub_cons rfl ?_)) (List.sublist_cons_self _ _)
    · rw [e1] at hA
      rw [e2] at hnext
      dsimp only at hA
      (repeat' (first | refine WP_seq ?_ | refine WP_region ?_ | refine WPL_nil ?_ | (apply WPL_t; (first | exact WT_move rfl | exact WT_assign rfl | exact WT_extract rfl rfl | (apply g_load; first | exact WT_loadf rfl rfl | exact WT_loada2 (k := 1) rfl rfl rfl) | (apply g_bin; first | exact WT_lss rfl rfl | exact WT_eql rfl rfl | exact WT_add rfl rfl) | (apply g_index; first | exact WT_index rfl rfl rfl)); exact rfl) | refine WP_block ?_ | refine WP_skip ?_ | (apply WPL_op0; exact rfl; first | (apply g_callf; first | (refine WO_call Try.func15 rfl hA rfl ?_; rintro _ _ ⟨rfl, rfl⟩)) | (apply g_alloc; refine WO_alloc ?_; intro _) | (apply g_store; first | refine WO_store (k := 0) (l0 := []) rfl rfl rfl ?_)) | (refine WP_cond rfl (fun hb => ?_) (fun hb => ?_) <;> (repeat (first | replace hb := dec_t hb | replace hb := dec_f hb)) <;> (try (exfalso; first | omega)))))
      refine ⟨k + 1, by omega, by omega, ?_⟩
      dsimp only
      rw [hnext]
      exact Leads_env (by repeat (first | exact sub_nil | refine sub_cons rfl ?_)) (List.sublist_cons_self _ _)
  · have hk9 : k = l.length := by omega
    subst hk9
    rw [List.take_length]
    (repeat' (first | refine WP_seq ?_ | refine WP_region ?_ | refine WPL_nil ?_ | (apply WPL_t; (first | (apply g_load; first | exact WT_loada2 (k := 1) rfl rfl rfl) | (apply g_bin; first | exact WT_lss rfl rfl)); exact rfl) | refine WP_ret ?_ | refine WP_exit ?_ | (apply WPL_op0; exact rfl; first | (apply g_store; first | refine WO_store (k := 0) (l0 := []) rfl rfl rfl ?_)) | (refine WP_cond rfl (fun hb => ?_) (fun hb => ?_) <;> (repeat (first | replace hb := dec_t hb | replace hb := dec_f hb)) <;> (try (exfalso; first | omega)))))
    refine ⟨.inr rfl, retw (loc' := []) (by first | exact ret1 rfl (.cella (k := 0) rfl rfl rfl rfl inferInstance rfl) (List.nil_sublist _) ⟨rfl, rfl⟩ | exact ret1 rfl (.cella (k := 1) rfl rfl rfl rfl inferInstance rfl) (List.nil_sublist _) ⟨rfl, rfl⟩) ?_ ⟨rfl, rfl⟩⟩
    exact .refl _

end Go.Proofs.Ytmghnjahjeinnaa
