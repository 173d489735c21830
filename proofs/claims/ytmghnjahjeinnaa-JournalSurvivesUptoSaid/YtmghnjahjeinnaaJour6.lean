/- few, and sane. -/
import Derived.Test.YtmghnjahjeinnaaJour5
import Derived.Test.YtmghnjahjeinnaaFrame1
namespace Go.Proofs.Ytmghnjahjeinnaa
open Go Go.RowKit Go.Kx Go.Fr

/-- The disk of sane, and behind its first sync. -/
def dA : Disk := ⟨[List.replicate 128 0], [], -1, false⟩
def dB : Disk := ⟨[encF 1 0 3 [97, 98]], [], -1, false⟩
theorem eN : newF 1 = (dA, 0) := by kernel_rfl
theorem eOA : openF dA = (([], 1, 0), 0) := by kernel_rfl
theorem eA1 : appF [] 1 0 (List.replicate 113 0) = (([], 0, 0), 2) := by kernel_rfl
theorem eA2 : appF [] 1 0 [97, 98] = (([[97, 98]], 1, 0), 0) := by kernel_rfl
theorem eS1 : jsyncF [[97, 98]] 1 0 dA = ((([[97, 98]], 1, 1), dB), 0) := by kernel_rfl
theorem eOB : openF dB = (([[97, 98]], 1, 1), 0) := by kernel_rfl
theorem eS2 : jsyncF [[97, 98]] 1 0 dB = ((([], 0, 0), zeroDisk), 50) := by kernel_rfl
theorem eRm : jroom [] 1 0 = 112 := by kernel_rfl
theorem eC0 : jchk [] 0 0 = 1 := by kernel_rfl

/-- Few: how many records and bytes. -/
def manyF (o : List (List UInt8)) : Nat := (o.map fun b => 1 + b.length).sum
theorem manyF_take (o : List (List UInt8)) (k : Nat) (h : k < o.length) : manyF (o.take (k + 1)) = manyF (o.take k) + (1 + o[k].length) := by
  unfold manyF
  rw [List.take_succ_eq_append_getElem h, List.map_append, List.sum_append, List.map_singleton, List.sum_singleton]
theorem manyF_le (o : List (List UInt8)) (h : ∀ b ∈ o, b.length ≤ 140737488355328) : manyF o ≤ 140737488355329 * o.length := by
  induction o with
  | nil => simp [manyF]
  | cons b o ih =>
    have h1 := ih fun c hc => h c (List.mem_cons_of_mem _ hc)
    have h2 := h b List.mem_cons_self
    simp only [manyF, List.map_cons, List.sum_cons, List.length_cons] at h1 ⊢
    omega
set_option maxHeartbeats 4000000 in
set_option maxRecDepth 100000 in
theorem sane_any : FnC Try.prog 10 [] [] (fun p loc => p = exB true ∧ loc = []) := by
  refine FnC_enter Try.func10 rfl Try.ntmps10 rfl fun w0 F0 out => ?_
  have hda : DIn dA := by constructor <;> decide
  have hdb : DIn dB := by constructor <;> decide
  have hr1 : ∀ b ∈ ([] : List (List UInt8)), b.length < 2 ^ 40 := fun b hb => by cases hb
  have hr2 : ∀ b ∈ ([[97, 98]] : List (List UInt8)), b.length < 2 ^ 40 := fun b hb => by rw [List.mem_singleton] at hb; subst hb; decide
  have hN := new_fr 1
  rw [eN] at hN
  have hOA := open_any dA
  rw [eOA] at hOA
  have hOB := open_any dB
  rw [eOB] at hOB
  have hA1 := append_any [] 1 0 (List.replicate 113 0) (by decide) hr1 (by rw [List.length_replicate]; decide)
  rw [eA1] at hA1
  have hA2 := append_any [] 1 0 [97, 98] (by decide) hr1 (by decide)
  rw [eA2] at hA2
  have hS1 := jsync_any [[97, 98]] 1 0 dA (by decide) hr2 hda
  rw [eS1] at hS1
  have hS2 := jsync_any [[97, 98]] 1 0 dB (by decide) hr2 hdb
  rw [eS2] at hS2
  have hRm := room_any [] 1 0 (by decide) hr1
  rw [eRm] at hRm
  have hC0 := FnC_args (jcheck_any [] 0 0 (by decide) hr1) (.cons im_jr0 .nil)
  rw [eC0] at hC0
  clear hr1 hr2 hda hdb
  generalize dA = A at *
  generalize dB = B at *
  have hz : List.replicate 113 (ex (.int .u8 0)) = (List.replicate 113 (0 : UInt8)).flatMap byV := by rw [flat_byV, List.map_replicate]; rfl
  (repeat' (first | (apply cut_at 3; refine Stop.out ?_) | refine WP_seq ?_ | refine WP_region ?_ | refine WPL_nil ?_ | (apply WPL_t; (first | exact WT_move rfl | exact WT_assign rfl | exact WT_extract rfl rfl | (apply g_load; first | exact WT_loada2 (k := 0) rfl rfl rfl)); exact rfl) | (apply WPL_op0; exact rfl; first | (apply g_callf; first | (refine WO_call Try.func25 rfl hN rfl ?_; rintro _ _ ⟨rfl, rfl⟩) | (refine WO_call Try.func12 rfl hOA rfl ?_; rintro _ _ ⟨rfl, rfl⟩)) | (apply g_alloc; refine WO_alloc ?_; intro _) | (apply g_store; first | refine WO_store (k := 0) (l0 := []) rfl rfl rfl ?_))))
  refine ⟨?_⟩
  rename_i b1 b3
  refine WP_cutR 3 (fun b5 : Nat => ([(0, exB false), (1, ex (.pointer (some ⟨b1, 0, none⟩))), (2, exI .i64 0), (3, ex (.pointer (some ⟨b3, 0, none⟩))), (4, exI .i64 0), (5, ex (.pointer (some ⟨b5, 0, none⟩))), (6, exI .i64 2)], [row b5 29 3 [isl (eSl eByte) [], exI .i64 0, exI .i64 0], row b3 29 3 [isl (eSl eByte) [], exI .i64 1, exI .i64 0], row b1 25 4 [isl (eSl eByte) A.secs, isl eWr A.pend, exI .i64 A.left, exB A.stopped]])) (fun _ => True) ?_ fun b5 _ => ?_
  ·
    (refine WP_draw [] 0 rfl ?_)
    (repeat' (first | (refine WPY_leads (by decide +kernel) (Leads_frow (k := 0) (E := eByte) (t := 28) (List.replicate 113 0) rfl rfl hz rfl) ?_) | refine WPY_done (by decide +kernel) ?_ | (refine WPY_one (H' :=  feet []) 2 (by decide +kernel) rfl guard_none (fun h => absurd h (by decide)) ?_) | (refine WPY_one (H' :=  fun _ => True) 5 (by decide +kernel) rfl guard_none (fun _ _ _ => trivial) ?_) | (refine WPY_one (H' :=  fun _ => True) 8 (by decide +kernel) rfl guard_none (fun _ _ _ => trivial) ?_) | (refine WPY_one (H' :=  fun _ => True) 4 (by decide +kernel) rfl guard_none (fun _ _ _ => trivial) ?_) | (refine WPY_one (H' :=  feet []) 1 (by decide +kernel) rfl guard_none (fun h => absurd h (by decide)) ?_) | (refine WPY_one (H' :=  feet []) 7 (by decide +kernel) rfl guard_none (fun h => absurd h (by decide)) ?_) | (refine WPY_one (H' :=  fun _ => True) 0 (by decide +kernel) rfl guard_none (fun _ _ _ => trivial) ?_) | (refine WPY_one (H' :=  fun _ => True) 3 (by decide +kernel) rfl guard_none (fun _ _ _ => trivial) ?_) | (refine WPY_one (H' :=  feet []) 6 (by decide +kernel) rfl guard_none (fun h => absurd h (by decide)) ?_) | (refine WPY_two (H1 := fun _ => True) (H2 := feet []) 4 6 (by decide +kernel) rfl guard_none (fun _ _ _ => trivial) rfl guard_none (fun h => absurd h (by decide)) ?_ ?_) | (refine WPY_two (H1 := fun _ => True) (H2 := feet []) 5 7 (by decide +kernel) rfl guard_none (fun _ _ _ => trivial) rfl guard_none (fun h => absurd h (by decide)) ?_ ?_) | (refine WPY_two (H1 := feet []) (H2 := feet []) 1 6 (by decide +kernel) rfl guard_none (fun h => absurd h (by decide)) rfl guard_none (fun h => absurd h (by decide)) ?_ ?_) | (refine WPY_two (H1 := fun _ => True) (H2 := fun _ => True) 4 5 (by decide +kernel) rfl guard_none (fun _ _ _ => trivial) rfl guard_none (fun _ _ _ => trivial) ?_ ?_) | (refine WPY_two (H1 := fun _ => True) (H2 := feet []) 5 6 (by decide +kernel) rfl guard_none (fun _ _ _ => trivial) rfl guard_none (fun h => absurd h (by decide)) ?_ ?_) | (refine WPY_two (H1 := fun _ => True) (H2 := feet []) 3 6 (by decide +kernel) rfl guard_none (fun _ _ _ => trivial) rfl guard_none (fun h => absurd h (by decide)) ?_ ?_) | (refine WPY_two (H1 := fun _ => True) (H2 := feet []) 0 1 (by decide +kernel) rfl guard_none (fun _ _ _ => trivial) rfl guard_none (fun h => absurd h (by decide)) ?_ ?_) | (refine WPY_two (H1 := fun _ => True) (H2 := feet []) 0 6 (by decide +kernel) rfl guard_none (fun _ _ _ => trivial) rfl guard_none (fun h => absurd h (by decide)) ?_ ?_) | (refine WPY_two (H1 := feet []) (H2 := feet []) 2 6 (by decide +kernel) rfl guard_none (fun h => absurd h (by decide)) rfl guard_none (fun h => absurd h (by decide)) ?_ ?_) | (refine WPY_three (H1 := fun _ => True) (H2 := feet []) (H3 := feet []) 0 1 6 (by decide +kernel) rfl guard_none (fun _ _ _ => trivial) rfl guard_none (fun h => absurd h (by decide)) rfl guard_none (fun h => absurd h (by decide)) ?_ ?_ ?_) | (refine WPY_three (H1 := fun _ => True) (H2 := fun _ => True) (H3 := feet []) 4 5 6 (by decide +kernel) rfl guard_none (fun _ _ _ => trivial) rfl guard_none (fun _ _ _ => trivial) rfl guard_none (fun h => absurd h (by decide)) ?_ ?_ ?_) | (apply WO_t (H := fun _ => True)) | (apply g_callf; first | (refine WO_call Try.func15 rfl hA1 rfl ?_; rintro _ _ ⟨rfl, rfl⟩)) | (apply g_alloc; refine WO_alloc ?_; intro _) | (apply g_store; first | refine WO_store (k := 0) (l0 := []) rfl rfl rfl ?_) | (apply g_make; refine WO_make rfl rfl rfl ?_; intro _) | (apply blt_h; exact rfl) | (first | exact WT_move rfl | exact WT_assign rfl | exact WT_extract rfl rfl | (apply g_load; first | exact WT_loada2 (k := 0) rfl rfl rfl | exact WT_loada2 (k := 1) rfl rfl rfl))))
    all_goals exact cut_here _ trivial (Leads_env (by repeat (first | exact sub_nil | refine sub_cons rfl ?_)) (List.Sublist.refl _))
  · (repeat' (first | (apply WPL_op0; exact rfl; refine WO_ctext [97, 98] rfl rfl rfl rfl rfl rfl (by decide) (by decide) (fun h => by obtain ⟨e, he, _⟩ := h; cases he) ?_) | refine WP_seq ?_ | refine WP_region ?_ | refine WPL_nil ?_ | (apply WPL_t; (first | exact WT_move rfl | exact WT_assign rfl | exact WT_pick (b := true) rfl (fun _ => rfl) (fun e => by cases e) | exact WT_extract rfl rfl | (apply g_load; first | exact WT_loada2 (k := 0) rfl rfl rfl | exact WT_loada2 (k := 1) rfl rfl rfl | exact WT_loada2 (k := 3) rfl rfl rfl) | (apply g_bin; first | exact WT_eql rfl rfl)); exact rfl) | (apply WPL_gt; exact rfl; exact rfl; exact rfl; (first | exact WT_move rfl | (apply g_load; first | exact WT_loadf rfl rfl | exact WT_load (k := 2) rfl rfl rfl rfl | exact WT_load (k := 4) rfl rfl rfl rfl | exact WT_load (k := 7) rfl rfl rfl rfl | exact WT_loada2 (k := 7) rfl rfl rfl) | (apply g_fld; first | exact WT_field rfl rfl rfl) | (apply g_bin; first | exact WT_eql rfl rfl | exact WT_seq rfl rfl) | (apply g_index; first | exact WT_index rfl rfl rfl) | (apply g_conv; first | exact WT_b2s rfl rfl rfl rfl) | (apply g_call; first | exact WT_len rfl rfl) | (apply g_build; first | exact WT_build2 rfl rfl (by repeat (first | exact PartsO.nil)))); exact rfl) | refine WP_ret ?_ | (apply WPL_op0; exact rfl; first | (apply g_callf; first | (refine WO_call Try.func15 rfl hA2 rfl ?_; rintro _ _ ⟨rfl, rfl⟩) | (refine WO_call Try.func21 rfl hS1 rfl ?_; rintro _ _ ⟨rfl, rfl⟩) | (refine WO_call Try.func21 rfl hS2 rfl ?_; rintro _ _ ⟨rfl, rfl⟩) | (refine WO_call Try.func12 rfl hOB rfl ?_; rintro _ _ ⟨rfl, rfl⟩)) | (apply g_alloc; refine WO_alloc ?_; intro _) | (apply g_store; first | refine WO_store (k := 0) (l0 := []) rfl rfl rfl ?_ | refine WO_store (k := 1) (l0 := []) rfl rfl rfl ?_) | (apply g_bslice; (first | refine WO_bslice rfl (by repeat (first | exact PartsO.nil | (apply PartsO.cons; exact rfl; exact inferInstance; exact rfl; exact rfl))) ?_); intro _)) | (apply WPL_on0; exact rfl; exact rfl; exact rfl; exact rfl; (apply g_callf; first | (refine WO_call Try.func19 rfl hRm rfl ?_; rintro _ _ ⟨rfl, rfl⟩) | (refine WO_call Try.func17 rfl hC0 rfl ?_; rintro _ _ ⟨rfl, rfl⟩)))))
    refine ⟨.inr rfl, ret1 rfl (.tmp rfl) (List.nil_sublist _) ⟨rfl, rfl⟩⟩

end Go.Proofs.Ytmghnjahjeinnaa

/- few. -/
namespace Go.Proofs.Ytmghnjahjeinnaa
open Go Go.RowKit Go.Kx Go.Fr

theorem manyF_take_le (o : List (List UInt8)) (k : Nat) : manyF (o.take k) ≤ manyF o := by
  unfold manyF
  conv => rhs; rw [← List.take_append_drop k o, List.map_append, List.sum_append]
  omega
def fewF (D : Disk) (o : List (List UInt8)) : Bool := decide (D.secs.length ≤ 40) && (decide (D.pend.length ≤ 40) && decide (manyF o ≤ 4000))

set_option maxHeartbeats 1000000 in
set_option maxRecDepth 100000 in
theorem few_any (D : Disk) (o : List (List UInt8)) (hm : manyF o < 2 ^ 62) (ho : o.length < 2 ^ 62) : FnC Try.prog 11 [dsk D, isl (eSl eByte) o] [] (fun p loc => p = exB (fewF D o) ∧ loc = []) := by
  refine FnC_enter Try.func11 rfl Try.ntmps11 rfl fun w0 F0 out => ?_
  (repeat' (first | refine WP_seq ?_ | refine WP_region ?_ | refine WPL_nil ?_ | (apply WPL_t; (first | exact WT_move rfl | exact WT_assign rfl | (apply g_call; first | exact WT_len rfl rfl)); exact rfl) | refine WP_block ?_ | (apply WPL_op0; exact rfl; first | (apply g_box; refine WO_box rfl ?_; intro _))))
  rename_i b2
  refine WP_loop (fun k : Nat => ([(2, ex (.pointer (some ⟨b2, 0, none⟩))), (8, isl (eSl eByte) o), (9, exI .i64 o.length), (10, exI .i64 k), (5, exI .i64 (manyF (o.take k)))], [row b2 25 4 [isl (eSl eByte) D.secs, isl eWr D.pend, exI .i64 D.left, exB D.stopped]])) (fun k => k ≤ o.length) (fun k => o.length - k) 0 ?_ (by omega) fun k hk => ?_
  · exact Leads_env (by repeat (first | exact sub_nil | refine sub_cons rfl ?_)) (List.Sublist.refl _)
  have h1 := manyF_take_le o k
  have h2 := manyF_take_le o (k + 1)
  have h3 : ∀ (h : k < o.length), manyF (o.take (k + 1)) = manyF (o.take k) + (1 + o[k].length) := manyF_take o k
  by_cases hlt : k < o.length
  · have h4 := h3 hlt
    (repeat' (first | refine WP_seq ?_ | refine WP_region ?_ | refine WPL_nil ?_ | (apply WPL_t; (first | exact WT_move rfl | exact WT_assign rfl | (apply g_load; first | exact WT_loadf rfl rfl) | (apply g_bin; first | exact WT_lss rfl rfl | exact WT_add rfl rfl) | (apply g_index; first | exact WT_index rfl rfl rfl) | (apply g_call; first | exact WT_len rfl rfl)); exact rfl) | refine WP_block ?_ | refine WP_skip ?_ | (refine WP_cond rfl (fun hb => ?_) (fun hb => ?_) <;> (repeat (first | replace hb := dec_t hb | replace hb := dec_f hb)) <;> (try (exfalso; first | omega)))))
    refine ⟨k + 1, by omega, by omega, ?_⟩
    dsimp only
    rw [h4, show ((manyF (o.take k) + (1 + o[k].length) : Nat) : Int) = (manyF (o.take k) : Int) + (1 + (o[k].length : Int)) by omega]
    exact Leads_env (by repeat (first | exact sub_nil | refine sub_cons rfl ?_)) (List.Sublist.refl _)
  · have hk9 : k = o.length := by omega
    subst hk9
    rw [List.take_length]
    (repeat' (first | refine WP_seq ?_ | refine WP_region ?_ | refine WPL_nil ?_ | (apply WPL_t; (first | exact WT_move rfl | exact WT_assign rfl | exact WT_pick (b := true) rfl (fun _ => rfl) (fun e => by cases e) | exact WT_pick (b := false) rfl (fun e => by cases e) (fun _ => rfl) | (apply g_load; first | exact WT_load (k := 0) rfl rfl rfl rfl) | (apply g_fld; first | exact WT_field rfl rfl rfl) | (apply g_bin; first | exact WT_lss rfl rfl | exact WT_leq rfl rfl) | (apply g_call; first | exact WT_len rfl rfl)); exact rfl) | (refine WPL_off rfl rfl rfl rfl rfl ?_) | (apply WPL_gt; exact rfl; exact rfl; exact rfl; (first | exact WT_move rfl | (apply g_load; first | exact WT_load (k := 0) rfl rfl rfl rfl) | (apply g_fld; first | exact WT_field rfl rfl rfl) | (apply g_bin; first | exact WT_leq rfl rfl) | (apply g_call; first | exact WT_len rfl rfl)); exact rfl) | refine WP_ret ?_ | refine WP_exit ?_ | (refine WPL_case rfl rfl (fun hb => ?_) (fun hb => ?_) <;> (repeat (first | replace hb := dec_t hb | replace hb := dec_f hb)) <;> (try (exfalso; first | fail))) | (refine WP_cond rfl (fun hb => ?_) (fun hb => ?_) <;> (repeat (first | replace hb := dec_t hb | replace hb := dec_f hb)) <;> (try (exfalso; first | omega)))))
    all_goals (refine ⟨.inr rfl, ret1 rfl (.tmp rfl) (List.nil_sublist _) ⟨congrArg exB ?_, rfl⟩⟩)
    all_goals (unfold fewF; rw [Bool.eq_iff_iff]; simp only [Bool.and_eq_true, decide_eq_true_eq]; constructor <;> intro h <;> first | (cases h; done) | omega)

end Go.Proofs.Ytmghnjahjeinnaa

/- JournalOpenSpec. -/
namespace Go.Proofs.Ytmghnjahjeinnaa
open Go Go.RowKit Go.Kx Go.Fr

theorem openF_len (D : Disk) : (openF D).1.1.length < 2 ^ 17 := by
  have key : Disk.ok D = true → (recordsR D.secs).length < 2 ^ 17 := fun h => by
    have := (ok_secs h).1
    rw [recordsR_pairs, List.length_map]
    have h2 := pairsR_len D.secs (D.secs.length + 1) 0 0
    unfold pairsF; omega
  unfold openF
  split
  · split
    · simp
    · split
      · exact key (by assumption)
      · simp
  · simp

set_option maxHeartbeats 1000000 in
set_option maxRecDepth 100000 in
theorem openSpec_any (D : Disk) : FnC Try.prog 3 [dsk D] [] (fun p loc => p = exB true ∧ loc = []) := by
  refine FnC_enter Try.func3 rfl Try.ntmps3 rfl fun w0 F0 out => ?_
  have hF := FnC_args (few_any D [] (by decide) (by decide)) (args := [dsk D, ex (.slice none 0 0)]) (.cons (.refl _) (.cons .nil .nil))
  have hO := open_any D
  have hR := ropen_any D
  have hlen := openF_len D
  generalize openF D = r at *
  obtain ⟨⟨o, m, s⟩, e⟩ := r
  dsimp only at hO hR hlen
  have hS := jsame_any o o m s m s (by omega) (by omega)
  (repeat' (first | refine WP_seq ?_ | refine WP_region ?_ | refine WPL_nil ?_ | (apply WPL_t; (first | exact WT_move rfl | exact WT_assign rfl | exact WT_pick (b := true) rfl (fun _ => rfl) (fun e => by cases e) | exact WT_pick (b := false) rfl (fun e => by cases e) (fun _ => rfl) | exact WT_extract rfl rfl | (apply g_load; first | exact WT_loada2 (k := 0) rfl rfl rfl | exact WT_loada2 (k := 1) rfl rfl rfl) | (apply g_un; first | exact WT_not rfl)); exact rfl) | (refine WPL_off rfl rfl rfl rfl rfl ?_) | (apply WPL_gt; exact rfl; exact rfl; exact rfl; (first | exact WT_move rfl | (apply g_bin; first | exact WT_eql rfl rfl)); exact rfl) | refine WP_skip ?_ | refine WP_ret ?_ | refine WP_cond_f rfl ?_ | (apply WPL_op0; exact rfl; first | (apply g_callf; first | (refine WO_call Try.func10 rfl sane_any rfl ?_; rintro _ _ ⟨rfl, rfl⟩) | (refine WO_call Try.func11 rfl hF rfl ?_; rintro _ _ ⟨rfl, rfl⟩) | (refine WO_call Try.func12 rfl hO rfl ?_; rintro _ _ ⟨rfl, rfl⟩) | (refine WO_call Try.func13 rfl hR rfl ?_; rintro _ _ ⟨rfl, rfl⟩) | (refine WO_call Try.func14 rfl hS rfl ?_; rintro _ _ ⟨rfl, rfl⟩)) | (apply g_box; refine WO_box rfl ?_; intro _) | (apply g_alloc; refine WO_alloc ?_; intro _) | (apply g_store; first | refine WO_store (k := 0) (l0 := []) rfl rfl rfl ?_)) | (refine WPL_case rfl rfl (fun hb => ?_) (fun hb => ?_) <;> (repeat (first | replace hb := dec_t hb | replace hb := dec_f hb)) <;> (try (exfalso; first | fail))) | (refine WP_cond rfl (fun hb => ?_) (fun hb => ?_) <;> (repeat (first | replace hb := not_t hb | replace hb := not_f hb)) <;> (try (exfalso; first | fail)))))
  all_goals (refine ⟨.inr rfl, ret1 rfl (.tmp rfl) (List.nil_sublist _) ⟨?_, rfl⟩⟩)
  all_goals first | rfl | exact absurd ⟨rfl, rfl, rfl⟩ hb | (simp; done)

/-- A law's contract, without the frame. -/
theorem law_of {P : Program} {f : FuncId} {args : List SP} (h : FnC P f args [] (fun p loc => p = exB true ∧ loc = [])) {w : World} {vals : List Value} (hA : CellsR (fun _ => True) w args vals) : Calls P f vals.toArray w fun e w' => e = .returned (.bool true) ∧ Below w.heap.size w w' := by
  refine (h (fun _ => True) w vals [] ⟨fun e he => absurd he (by simp), fun e he => absurd he (by simp), List.Pairwise.nil⟩ hA).mono ?_
  rintro e w' ⟨v, F', p, loc', rfl, ⟨rfl, rfl⟩, hp, _, hch, _, _⟩
  have hv : v = .bool true := hp
  subst hv
  exact ⟨rfl, hch.os, hch.tape, hch.output, hch.size, fun k hk => hch.block k hk fun ⟨e, he, _⟩ => absurd he (by simp)⟩

theorem openSpec_run (W : World) (sa : Option Addr) (sn sc : Nat) (pa : Option Addr) (pn pc : Nat) (D : Disk) (hD : DiskAt (fun _ => True) W sa sn sc pa pn pc D) :
    Calls Try.prog 3 #[.agg #[.slice sa sn sc, .slice pa pn pc, .int .i64 D.left, .bool D.stopped]] W fun e w' => e = .returned (.bool true) ∧ Below W.heap.size W w' :=
  law_of (openSpec_any D) (.cons (dsk_to hD.secs hD.pend) .nil)

end Go.Proofs.Ytmghnjahjeinnaa
