/- IndexByte; the classes of bytes; names. The first two contracts were laid by the shelf's tool. -/
import Derived.Test.YtdpabdbeecbnmaaDoorRows
import Derived.Test.YtdpabdbeecbnmaaDoorPart2
import Derived.Lib.Strings
import Derived.Lib.Walk
import Derived.Lib.Bytealg
-- STRINGS
namespace Go.Proofs.YtdpabdbeecbnmaaDoor
open Go Go.RowKit Go.Kx Go.Fr

set_option maxHeartbeats 1000000 in
set_option maxRecDepth 100000 in
theorem slIndexByte (s : ByteArray) (c : Int) (w : World) :
    Calls Tryd.prog 55 #[.string s, .int .u8 c] w fun e w' => e = .returned (.int .i64 (Lib.indexByte s.data.toList c.toNat.toUInt8)) ∧ w' = w := by
  go_enter Tryd.func55, Tryd.ntmps55
  go_wp2
  rw [run_callFunc_extern Tryd.func65 (by kernel_rfl) (by kernel_rfl) (by kernel_rfl) (e := Extern.BytealgIndexByte.indexByte) (by kernel_rfl), Lib.run_indexByteString]
  simp only [Result.andThen]
  rw [Oper.upon_value]
  go_wp2
  go_ret
  exact ⟨rfl, rfl⟩
theorem indexByte_fr (l : List UInt8) (c : UInt8) : FnC Tryd.prog 55 [exT l, exI .u8 c.toNat] [] (fun p loc => p = exI .i64 (Lib.indexByte l c) ∧ loc = []) := by
  refine FnC_of fun F w vals h => ?_
  obtain ⟨v, u, rfl, rfl, rfl⟩ := h.two
  refine (slIndexByte ⟨l.toArray⟩ c.toNat w).mono ?_
  rintro e w' ⟨rfl, rfl⟩
  refine ⟨_, _, rfl, ⟨rfl, rfl⟩, ?_, Below.refl _ _⟩
  show Value.int .i64 _ = Value.int .i64 _
  congr 2
  · rw [Int.toNat_natCast]; exact UInt8.ofNat_toNat
set_option maxRecDepth 100000 in
theorem indexByteS_any (l : List UInt8) (c : UInt8) : FnC Tryd.prog 46 [exT l, exI .u8 c.toNat] [] (fun p loc => p = exI .i64 (Lib.indexByte l c) ∧ loc = []) := by
  refine FnC_enter Tryd.func46 rfl Tryd.ntmps46 rfl fun w0 F0 out => ?_
  have hI := indexByte_fr l c
  (repeat' (first | refine WP_seq ?_ | refine WP_region ?_ | refine WPL_nil ?_ | (apply WPL_t; (first | exact WT_move rfl | exact WT_assign rfl); exact rfl) | refine WP_ret ?_ | (apply WPL_op0; exact rfl; first | (apply g_callf; first | (refine WO_call Tryd.func55 rfl hI rfl ?_; rintro _ _ ⟨rfl, rfl⟩)))))
  exact ⟨.inr rfl, ret1 rfl (.tmp rfl) (List.nil_sublist _) ⟨rfl, rfl⟩⟩

def letterF (c : UInt8) : Bool := (decide (97 ≤ c.toNat) && decide (c.toNat ≤ 122)) || (decide (65 ≤ c.toNat) && decide (c.toNat ≤ 90))
def figureF (c : UInt8) : Bool := decide (48 ≤ c.toNat) && decide (c.toNat ≤ 57)
def spaceF (c : UInt8) : Bool := decide (c.toNat = 32) || decide (c.toNat = 9) || decide (c.toNat = 10) || decide (c.toNat = 13)
def signs : List UInt8 := [123, 125, 40, 41, 59, 44, 61, 58, 46, 60, 62, 33, 43, 45, 42, 47]
def classF (c : UInt8) : Int := if letterF c then 2 else if figureF c then 3 else if c.toNat = 95 then 5 else if spaceF c then 1 else if 0 ≤ Lib.indexByte signs c then 4 else 0
def partF (c : UInt8) : Bool := letterF c || figureF c || decide (c.toNat = 95)
set_option maxHeartbeats 1000000 in
set_option maxRecDepth 100000 in
theorem class_any (c : UInt8) : FnC Tryd.prog 29 [exI .u8 c.toNat] [] (fun p loc => p = exI .i64 (classF c) ∧ loc = []) := by
  refine FnC_enter Tryd.func29 rfl Tryd.ntmps29 rfl fun w0 F0 out => ?_
  have hI := indexByteS_any signs c
  (repeat' (first | refine WP_seq ?_ | refine WP_region ?_ | refine WPL_nil ?_ | (apply WPL_t; (first | exact WT_move rfl | exact WT_assign rfl | exact WT_pick (b := true) rfl (fun _ => rfl) (fun e => by cases e) | exact WT_pick (b := false) rfl (fun e => by cases e) (fun _ => rfl) | (apply g_bin; first | exact WT_eql rfl rfl | exact WT_geq rfl rfl)); exact rfl) | (refine WPL_off rfl rfl rfl rfl rfl ?_) | (refine WPL_offu rfl rfl rfl rfl ?_) | (apply WPL_gt; exact rfl; exact rfl; exact rfl; (first | exact WT_move rfl | exact WT_pick (b := true) rfl (fun _ => rfl) (fun e => by cases e) | exact WT_pick (b := false) rfl (fun e => by cases e) (fun _ => rfl) | (apply g_bin; first | exact WT_eql rfl rfl | exact WT_leq rfl rfl | exact WT_geq rfl rfl)); exact rfl) | refine WP_block ?_ | refine WP_skip ?_ | refine WP_ret ?_ | refine WP_cond_t rfl ?_ | refine WP_cond_f rfl ?_ | (apply WPL_op0; exact rfl; first | (apply g_callf; first | (refine WO_call Tryd.func46 rfl hI rfl ?_; rintro _ _ ⟨rfl, rfl⟩))) | (refine WPL_case rfl rfl (fun hb => ?_) (fun hb => ?_) <;> (repeat (first | replace hb := dec_t hb | replace hb := dec_f hb)) <;> (try (exfalso; first | omega))) | (refine WP_cond rfl (fun hb => ?_) (fun hb => ?_) <;> (repeat (first | replace hb := dec_t hb | replace hb := dec_f hb)) <;> (try (exfalso; first | omega)))))
  all_goals (refine ⟨by first | exact .inr rfl | exact .inl rfl, ret1 rfl (.tmp rfl) (List.nil_sublist _) ⟨congrArg (exI .i64) ?_, rfl⟩⟩)
  all_goals (unfold classF letterF figureF spaceF; simp [*])
  all_goals omega

theorem class_letter (c : UInt8) : classF c = 2 ↔ letterF c = true := by
  unfold classF
  split
  · rename_i h; simp [h]
  · rename_i h
    constructor
    · intro e; repeat' split at e
      all_goals simp at e
    · intro e; exact absurd e h
theorem class_part (c : UInt8) : (classF c = 2 ∨ classF c = 3 ∨ classF c = 5) ↔ partF c = true := by
  unfold classF partF
  cases h1 : letterF c <;> cases h2 : figureF c <;> by_cases h3 : c.toNat = 95 <;> simp [h3]
  · repeat' split
    all_goals simp

set_option maxRecDepth 100000 in
theorem letter_any (c : UInt8) : FnC Tryd.prog 30 [exI .u8 c.toNat] [] (fun p loc => p = exB (letterF c) ∧ loc = []) := by
  refine FnC_enter Tryd.func30 rfl Tryd.ntmps30 rfl fun w0 F0 out => ?_
  (repeat' (first | refine WP_seq ?_ | refine WP_region ?_ | refine WPL_nil ?_ | (apply WPL_t; (first | exact WT_move rfl | exact WT_assign rfl | exact WT_pick (b := true) rfl (fun _ => rfl) (fun e => by cases e) | exact WT_pick (b := false) rfl (fun e => by cases e) (fun _ => rfl) | (apply g_bin; first | exact WT_geq rfl rfl)); exact rfl) | (refine WPL_off rfl rfl rfl rfl rfl ?_) | (refine WPL_offu rfl rfl rfl rfl ?_) | (apply WPL_gt; exact rfl; exact rfl; exact rfl; (first | exact WT_move rfl | exact WT_pick (b := true) rfl (fun _ => rfl) (fun e => by cases e) | exact WT_pick (b := false) rfl (fun e => by cases e) (fun _ => rfl) | (apply g_bin; first | exact WT_leq rfl rfl | exact WT_geq rfl rfl)); exact rfl) | refine WP_ret ?_ | (refine WPL_case rfl rfl (fun hb => ?_) (fun hb => ?_) <;> (repeat (first | replace hb := dec_t hb | replace hb := dec_f hb)) <;> (try (exfalso; first | omega)))))
  all_goals (refine ⟨.inr rfl, ret1 rfl (.tmp rfl) (List.nil_sublist _) ⟨congrArg exB ?_, rfl⟩⟩)
  all_goals (unfold letterF)
  all_goals (rw [Bool.eq_iff_iff]; simp only [Bool.or_eq_true, Bool.and_eq_true, decide_eq_true_eq, Bool.false_eq_true, true_iff, false_iff]; omega)
set_option maxRecDepth 100000 in
theorem figure_any (c : UInt8) : FnC Tryd.prog 32 [exI .u8 c.toNat] [] (fun p loc => p = exB (figureF c) ∧ loc = []) := by
  refine FnC_enter Tryd.func32 rfl Tryd.ntmps32 rfl fun w0 F0 out => ?_
  (repeat' (first | refine WP_seq ?_ | refine WP_region ?_ | refine WPL_nil ?_ | (apply WPL_t; (first | exact WT_move rfl | exact WT_assign rfl | exact WT_pick (b := true) rfl (fun _ => rfl) (fun e => by cases e) | exact WT_pick (b := false) rfl (fun e => by cases e) (fun _ => rfl) | (apply g_bin; first | exact WT_geq rfl rfl)); exact rfl) | (refine WPL_off rfl rfl rfl rfl rfl ?_) | (apply WPL_gt; exact rfl; exact rfl; exact rfl; (first | exact WT_move rfl | (apply g_bin; first | exact WT_leq rfl rfl)); exact rfl) | refine WP_ret ?_ | (refine WPL_case rfl rfl (fun hb => ?_) (fun hb => ?_) <;> (repeat (first | replace hb := dec_t hb | replace hb := dec_f hb)) <;> (try (exfalso; first | fail)))))
  all_goals (refine ⟨.inr rfl, ret1 rfl (.tmp rfl) (List.nil_sublist _) ⟨congrArg exB ?_, rfl⟩⟩)
  all_goals (unfold figureF)
  all_goals (rw [Bool.eq_iff_iff]; simp only [Bool.and_eq_true, decide_eq_true_eq, Bool.false_eq_true, false_iff]; omega)
set_option maxRecDepth 100000 in
theorem part_any (c : UInt8) : FnC Tryd.prog 31 [exI .u8 c.toNat] [] (fun p loc => p = exB (partF c) ∧ loc = []) := by
  refine FnC_enter Tryd.func31 rfl Tryd.ntmps31 rfl fun w0 F0 out => ?_
  (repeat' (first | refine WP_seq ?_ | refine WP_region ?_ | refine WPL_nil ?_ | (apply WPL_t; (first | exact WT_move rfl | exact WT_assign rfl | exact WT_pick (b := true) rfl (fun _ => rfl) (fun e => by cases e) | exact WT_pick (b := false) rfl (fun e => by cases e) (fun _ => rfl)); exact rfl) | (refine WPL_off rfl rfl rfl rfl rfl ?_) | (apply WPL_gt; exact rfl; exact rfl; exact rfl; (first | exact WT_move rfl | (apply g_bin; first | exact WT_eql rfl rfl)); exact rfl) | refine WP_ret ?_ | (apply WPL_op0; exact rfl; first | (apply g_callf; first | (refine WO_call Tryd.func30 rfl (letter_any _) rfl ?_; rintro _ _ ⟨rfl, rfl⟩))) | (apply WPL_on0; exact rfl; exact rfl; exact rfl; exact rfl; (apply g_callf; first | (refine WO_call Tryd.func32 rfl (figure_any _) rfl ?_; rintro _ _ ⟨rfl, rfl⟩))) | (refine WPL_case rfl rfl (fun hb => ?_) (fun hb => ?_) <;> (repeat (first | fail)) <;> (try (exfalso; first | fail)))))
  all_goals (refine ⟨.inr rfl, ret1 rfl (.tmp rfl) (List.nil_sublist _) ⟨congrArg exB ?_, rfl⟩⟩)
  all_goals (unfold partF; simp only [*, Bool.true_or, Bool.false_or, Bool.or_true] <;> first | rfl | exact decide_eq_decide.2 (by omega) | (rw [Bool.eq_iff_iff]; simp only [decide_eq_true_eq]; try omega))

/-- A name. -/
def nameF (s : List UInt8) : Bool := decide (1 ≤ s.length) && (decide (s.length ≤ 32) && (letterF (s[0]?.getD 0) && s.all partF))
set_option maxHeartbeats 1000000 in
set_option maxRecDepth 100000 in
theorem r3name_any (s : List UInt8) : FnC Tryd.prog 20 [exT s] [] (fun p loc => p = exB (nameF s) ∧ loc = []) := by
  refine FnC_enter Tryd.func20 rfl Tryd.ntmps20 rfl fun w0 F0 out => ?_
  by_cases h0 : 1 ≤ s.length ∧ s.length ≤ 32 ∧ letterF (s[0]?.getD 0) = true
  · obtain ⟨h1, h2, h3⟩ := h0
    have h3' : letterF (s[0]'(by omega)) = true := by rw [List.getElem?_eq_getElem (by omega)] at h3; exact h3
    (repeat' (first | refine WP_seq ?_ | refine WP_region ?_ | refine WPL_nil ?_ | (apply WPL_t; (first | exact WT_move rfl | exact WT_assign rfl | exact WT_pick (b := false) rfl (fun e => by cases e) (fun _ => rfl) | (apply g_bin; first | exact WT_lss rfl rfl) | (apply g_call; first | exact WT_lent rfl rfl)); exact rfl) | (apply WPL_gt; exact rfl; exact rfl; exact rfl; (first | exact WT_move rfl | (apply g_bin; first | exact WT_gtr rfl rfl) | (apply g_call; first | exact WT_lent rfl rfl) | (apply g_un; first | exact WT_not rfl) | (apply g_idxt; first | exact WT_idxt rfl rfl rfl)); exact rfl) | refine WP_block ?_ | refine WP_skip ?_ | refine WP_ret ?_ | (apply WPL_on0; exact rfl; exact rfl; exact rfl; exact rfl; (apply g_callf; first | (refine WO_call Tryd.func30 rfl (letter_any _) rfl ?_; rintro _ _ ⟨rfl, rfl⟩))) | (refine WPL_case rfl rfl (fun hb => ?_) (fun hb => ?_) <;> (repeat (first | replace hb := dec_t hb | replace hb := dec_f hb)) <;> (try (exfalso; first | omega))) | (refine WP_cond rfl (fun hb => ?_) (fun hb => ?_) <;> (repeat (first | replace hb := not_t hb | replace hb := not_f hb)) <;> (try (exfalso; first | fail)))))
    all_goals (try (exfalso; first | omega | (simp_all; done)))
    refine WP_loop (fun k : Nat => ([(0, exT s), (3, exI .i64 k)], [])) (fun k => k ≤ s.length ∧ (s.take k).all partF = true) (fun k => s.length - k) 0 ?_ ⟨Nat.zero_le _, rfl⟩ fun k hk => ?_
    · exact Leads_env (by repeat (first | exact sub_nil | refine sub_cons rfl ?_)) (List.Sublist.refl _)
    obtain ⟨hk, hall⟩ := hk
    by_cases hlt : k < s.length
    · cases hp : partF s[k]
      · (repeat' (first | refine WP_seq ?_ | refine WP_region ?_ | refine WPL_nil ?_ | (apply WPL_t; (first | exact WT_move rfl | exact WT_assign rfl | (apply g_bin; first | exact WT_lss rfl rfl | exact WT_add rfl rfl) | (apply g_call; first | exact WT_lent rfl rfl) | (apply g_un; first | exact WT_not rfl) | (apply g_idxt; first | exact WT_idxt rfl rfl rfl)); exact rfl) | refine WP_block ?_ | refine WP_skip ?_ | refine WP_ret ?_ | (apply WPL_op0; exact rfl; first | (apply g_callf; first | (refine WO_call Tryd.func31 rfl (part_any _) rfl ?_; rintro _ _ ⟨rfl, rfl⟩))) | (refine WP_cond rfl (fun hb => ?_) (fun hb => ?_) <;> (repeat (first | replace hb := dec_t hb | replace hb := dec_f hb | replace hb := not_t hb | replace hb := not_f hb)) <;> (try (exfalso; first | omega)))))
        all_goals (try (exfalso; simp_all; done))
        refine ⟨.inr rfl, ret1 rfl (.tmp rfl) (List.nil_sublist _) ⟨congrArg exB ?_, rfl⟩⟩
        have hn : s.all partF = false := by rw [List.all_eq_false]; exact ⟨_, List.getElem_mem hlt, by simp [hp]⟩
        unfold nameF
        rw [hn]; simp
      · (repeat' (first | refine WP_seq ?_ | refine WP_region ?_ | refine WPL_nil ?_ | (apply WPL_t; (first | exact WT_move rfl | exact WT_assign rfl | (apply g_bin; first | exact WT_lss rfl rfl | exact WT_add rfl rfl) | (apply g_call; first | exact WT_lent rfl rfl) | (apply g_un; first | exact WT_not rfl) | (apply g_idxt; first | exact WT_idxt rfl rfl rfl)); exact rfl) | refine WP_block ?_ | refine WP_skip ?_ | refine WP_ret ?_ | (apply WPL_op0; exact rfl; first | (apply g_callf; first | (refine WO_call Tryd.func31 rfl (part_any _) rfl ?_; rintro _ _ ⟨rfl, rfl⟩))) | (refine WP_cond rfl (fun hb => ?_) (fun hb => ?_) <;> (repeat (first | replace hb := dec_t hb | replace hb := dec_f hb | replace hb := not_t hb | replace hb := not_f hb)) <;> (try (exfalso; first | omega)))))
        all_goals (try (exfalso; simp_all; done))
        exact ⟨k + 1, ⟨by omega, by rw [List.take_succ_eq_append_getElem hlt, List.all_append, hall]; simp [hp]⟩, by omega, Leads_env (by repeat (first | exact sub_nil | refine sub_cons rfl ?_)) (List.Sublist.refl _)⟩
    · have hk9 : k = s.length := by omega
      subst hk9
      rw [List.take_length] at hall
      (repeat' (first | refine WP_seq ?_ | refine WP_region ?_ | refine WPL_nil ?_ | (apply WPL_t; (first | exact WT_move rfl | exact WT_assign rfl | (apply g_bin; first | exact WT_lss rfl rfl) | (apply g_call; first | exact WT_lent rfl rfl)); exact rfl) | refine WP_ret ?_ | refine WP_exit ?_ | (refine WP_cond rfl (fun hb => ?_) (fun hb => ?_) <;> (repeat (first | replace hb := dec_t hb | replace hb := dec_f hb)) <;> (try (exfalso; first | omega)))))
      all_goals (refine ⟨.inr rfl, ret1 rfl (.tmp rfl) (List.nil_sublist _) ⟨congrArg exB ?_, rfl⟩⟩)
      all_goals (unfold nameF; simp [*])
  · have hn : nameF s = false := by
      cases e : nameF s
      · rfl
      · unfold nameF at e
        simp only [Bool.and_eq_true, decide_eq_true_eq] at e
        exact absurd ⟨e.1, e.2.1, e.2.2.1⟩ h0
    rw [hn]
    (repeat' (first | refine WP_seq ?_ | refine WP_region ?_ | refine WPL_nil ?_ | (apply WPL_t; (first | exact WT_move rfl | exact WT_assign rfl | exact WT_pick (b := true) rfl (fun _ => rfl) (fun e => by cases e) | exact WT_pick (b := false) rfl (fun e => by cases e) (fun _ => rfl) | (apply g_bin; first | exact WT_lss rfl rfl) | (apply g_call; first | exact WT_lent rfl rfl)); exact rfl) | (refine WPL_off rfl rfl rfl rfl rfl ?_) | (apply WPL_gt; exact rfl; exact rfl; exact rfl; (first | exact WT_move rfl | (apply g_bin; first | exact WT_gtr rfl rfl) | (apply g_call; first | exact WT_lent rfl rfl) | (apply g_un; first | exact WT_not rfl) | (apply g_idxt; first | exact WT_idxt rfl rfl rfl)); exact rfl) | refine WP_block ?_ | refine WP_skip ?_ | refine WP_ret ?_ | refine WP_cond_t rfl ?_ | (apply WPL_on0; exact rfl; exact rfl; exact rfl; exact rfl; (apply g_callf; first | (refine WO_call Tryd.func30 rfl (letter_any _) rfl ?_; rintro _ _ ⟨rfl, rfl⟩))) | (refine WPL_case rfl rfl (fun hb => ?_) (fun hb => ?_) <;> (repeat (first | replace hb := dec_t hb | replace hb := dec_f hb)) <;> (try (exfalso; first | fail))) | (refine WP_cond rfl (fun hb => ?_) (fun hb => ?_) <;> (repeat (first | replace hb := not_t hb | replace hb := not_f hb)) <;> (try (exfalso; first | fail)))))
    all_goals first | exact ⟨.inr rfl, ret1 rfl (.tmp rfl) (List.nil_sublist _) ⟨rfl, rfl⟩⟩ | (exfalso; refine h0 ⟨by omega, by omega, ?_⟩; rw [List.getElem?_eq_getElem (by omega)]; assumption)

theorem nameF_class (s : List UInt8) : nameF s = (decide (1 ≤ s.length) && (decide (s.length ≤ 32) && (decide (classF (s[0]?.getD 0) = 2) && s.all fun c => decide (classF c = 2) || (decide (classF c = 3) || decide (classF c = 5))))) := by
  have h1 : decide (classF (s[0]?.getD 0) = 2) = letterF (s[0]?.getD 0) := by
    rw [Bool.eq_iff_iff, decide_eq_true_eq]; exact class_letter _
  have h2 : (fun c => decide (classF c = 2) || (decide (classF c = 3) || decide (classF c = 5))) = partF := by
    funext c
    rw [Bool.eq_iff_iff]
    simp only [Bool.or_eq_true, decide_eq_true_eq]
    exact class_part c
  rw [h1, h2]; rfl

set_option maxHeartbeats 1000000 in
set_option maxRecDepth 100000 in
theorem name_any (s : List UInt8) : FnC Tryd.prog 19 [exT s] [] (fun p loc => p = exB (nameF s) ∧ loc = []) := by
  refine FnC_enter Tryd.func19 rfl Tryd.ntmps19 rfl fun w0 F0 out => ?_
  by_cases h0 : 1 ≤ s.length ∧ s.length ≤ 32 ∧ classF (s[0]?.getD 0) = 2
  · obtain ⟨h1, h2, h3⟩ := h0
    have h3' : classF (s[0]'(by omega)) = 2 := by rw [List.getElem?_eq_getElem (by omega)] at h3; exact h3
    have hne : ¬ s = [] := fun e => by rw [e] at h1; simp at h1
    (repeat' (first | refine WP_seq ?_ | refine WP_region ?_ | refine WPL_nil ?_ | (apply WPL_t; (first | exact WT_move rfl | exact WT_assign rfl | exact WT_pick (b := true) rfl (fun _ => rfl) (fun e => by cases e) | exact WT_pick (b := false) rfl (fun e => by cases e) (fun _ => rfl) | (apply g_bin; first | exact WT_teq rfl rfl) | (apply g_call; first | exact WT_lent rfl rfl)); exact rfl) | (refine WPL_off rfl rfl rfl rfl rfl ?_) | (apply WPL_gt; exact rfl; exact rfl; exact rfl; (first | exact WT_move rfl | (apply g_bin; first | exact WT_neq rfl rfl | exact WT_gtr rfl rfl) | (apply g_call; first | exact WT_lent rfl rfl) | (apply g_idxt; first | exact WT_idxt rfl rfl rfl)); exact rfl) | refine WP_block ?_ | refine WP_skip ?_ | refine WP_ret ?_ | refine WP_cond_t rfl ?_ | (apply WPL_on0; exact rfl; exact rfl; exact rfl; exact rfl; (apply g_callf; first | (refine WO_call Tryd.func29 rfl (class_any _) rfl ?_; rintro _ _ ⟨rfl, rfl⟩))) | (refine WPL_case rfl rfl (fun hb => ?_) (fun hb => ?_) <;> (repeat (first | replace hb := dec_t hb | replace hb := dec_f hb)) <;> (try (exfalso; first | omega))) | (refine WP_cond rfl (fun hb => ?_) (fun hb => ?_) <;> (repeat (first | replace hb := dec_t hb | replace hb := dec_f hb | replace hb := not_t hb | replace hb := not_f hb)) <;> (try (exfalso; first | omega)))))
    all_goals (try (exfalso; first | omega | (simp_all; done)))
    refine WP_loop (fun k : Nat => ([(0, exT s), (18, exT s), (19, exI .i64 s.length), (20, exI .i64 k)], [])) (fun k => k ≤ s.length ∧ (s.take k).all partF = true) (fun k => s.length - k) 0 ?_ ⟨Nat.zero_le _, rfl⟩ fun k hk => ?_
    · exact Leads_env (by repeat (first | exact sub_nil | refine sub_cons rfl ?_)) (List.Sublist.refl _)
    obtain ⟨hk, hall⟩ := hk
    by_cases hlt : k < s.length
    · have hcp := class_part s[k]
      cases hp : partF s[k]
      · (repeat' (first | refine WP_seq ?_ | refine WP_region ?_ | refine WPL_nil ?_ | (apply WPL_t; (first | exact WT_move rfl | exact WT_assign rfl | exact WT_pick (b := true) rfl (fun _ => rfl) (fun e => by cases e) | exact WT_pick (b := false) rfl (fun e => by cases e) (fun _ => rfl) | (apply g_bin; first | exact WT_lss rfl rfl | exact WT_neq rfl rfl | exact WT_add rfl rfl) | (apply g_idxt; first | exact WT_idxt rfl rfl rfl)); exact rfl) | (refine WPL_off rfl rfl rfl rfl rfl ?_) | (apply WPL_gt; exact rfl; exact rfl; exact rfl; (first | exact WT_move rfl | (apply g_bin; first | exact WT_neq rfl rfl)); exact rfl) | refine WP_block ?_ | refine WP_skip ?_ | refine WP_ret ?_ | refine WP_cond_f rfl ?_ | (apply WPL_op0; exact rfl; first | (apply g_callf; first | (refine WO_call Tryd.func29 rfl (class_any _) rfl ?_; rintro _ _ ⟨rfl, rfl⟩))) | (refine WPL_case rfl rfl (fun hb => ?_) (fun hb => ?_) <;> (repeat (first | replace hb := dec_t hb | replace hb := dec_f hb | replace hb := not_t hb | replace hb := not_f hb)) <;> (try (exfalso; first | fail))) | (refine WP_cond rfl (fun hb => ?_) (fun hb => ?_) <;> (repeat (first | replace hb := dec_t hb | replace hb := dec_f hb | replace hb := not_t hb | replace hb := not_f hb)) <;> (try (exfalso; first | omega)))))
        all_goals (try (exfalso; simp_all; done))
        refine ⟨.inr rfl, ret1 rfl (.tmp rfl) (List.nil_sublist _) ⟨congrArg exB ?_, rfl⟩⟩
        have hn : s.all partF = false := by rw [List.all_eq_false]; exact ⟨_, List.getElem_mem hlt, by simp [hp]⟩
        unfold nameF
        rw [hn]; simp
      · (repeat' (first | refine WP_seq ?_ | refine WP_region ?_ | refine WPL_nil ?_ | (apply WPL_t; (first | exact WT_move rfl | exact WT_assign rfl | exact WT_pick (b := true) rfl (fun _ => rfl) (fun e => by cases e) | exact WT_pick (b := false) rfl (fun e => by cases e) (fun _ => rfl) | (apply g_bin; first | exact WT_lss rfl rfl | exact WT_neq rfl rfl | exact WT_add rfl rfl) | (apply g_idxt; first | exact WT_idxt rfl rfl rfl)); exact rfl) | (refine WPL_off rfl rfl rfl rfl rfl ?_) | (apply WPL_gt; exact rfl; exact rfl; exact rfl; (first | exact WT_move rfl | (apply g_bin; first | exact WT_neq rfl rfl)); exact rfl) | refine WP_block ?_ | refine WP_skip ?_ | refine WP_ret ?_ | refine WP_cond_f rfl ?_ | (apply WPL_op0; exact rfl; first | (apply g_callf; first | (refine WO_call Tryd.func29 rfl (class_any _) rfl ?_; rintro _ _ ⟨rfl, rfl⟩))) | (refine WPL_case rfl rfl (fun hb => ?_) (fun hb => ?_) <;> (repeat (first | replace hb := dec_t hb | replace hb := dec_f hb | replace hb := not_t hb | replace hb := not_f hb)) <;> (try (exfalso; first | fail))) | (refine WP_cond rfl (fun hb => ?_) (fun hb => ?_) <;> (repeat (first | replace hb := dec_t hb | replace hb := dec_f hb | replace hb := not_t hb | replace hb := not_f hb)) <;> (try (exfalso; first | omega)))))
        all_goals first | exact ⟨k + 1, ⟨by omega, by rw [List.take_succ_eq_append_getElem hlt, List.all_append, hall]; simp [hp]⟩, by omega, Leads_env (by repeat (first | exact sub_nil | refine sub_cons rfl ?_)) (List.Sublist.refl _)⟩ | (exfalso; simp_all; done)
    · have hk9 : k = s.length := by omega
      subst hk9
      rw [List.take_length] at hall
      (repeat' (first | refine WP_seq ?_ | refine WP_region ?_ | refine WPL_nil ?_ | (apply WPL_t; (first | exact WT_assign rfl | (apply g_bin; first | exact WT_lss rfl rfl)); exact rfl) | refine WP_ret ?_ | refine WP_exit ?_ | (refine WP_cond rfl (fun hb => ?_) (fun hb => ?_) <;> (repeat (first | replace hb := dec_t hb | replace hb := dec_f hb)) <;> (try (exfalso; first | omega)))))
      all_goals (refine ⟨.inr rfl, ret1 rfl (.tmp rfl) (List.nil_sublist _) ⟨congrArg exB ?_, rfl⟩⟩)
      all_goals (rw [class_letter] at h3; unfold nameF; simp [*])
  · have hn : nameF s = false := by
      cases e : nameF s
      · rfl
      · rw [nameF_class] at e
        simp only [Bool.and_eq_true, decide_eq_true_eq] at e
        exact absurd ⟨e.1, e.2.1, e.2.2.1⟩ h0
    rw [hn]
    by_cases e0 : s = []
    · subst e0
      (repeat' (first | refine WP_seq ?_ | refine WP_region ?_ | refine WPL_nil ?_ | (apply WPL_t; (first | exact WT_move rfl | exact WT_assign rfl | exact WT_pick (b := true) rfl (fun _ => rfl) (fun e => by cases e) | (apply g_bin; first | exact WT_teq rfl rfl)); exact rfl) | (refine WPL_off rfl rfl rfl rfl rfl ?_) | refine WP_ret ?_ | refine WP_cond_t rfl ?_))
      all_goals exact ⟨.inr rfl, ret1 rfl (.tmp rfl) (List.nil_sublist _) ⟨rfl, rfl⟩⟩
    · have h1 : 1 ≤ s.length := by
        rcases s with _ | ⟨c, t⟩
        · exact absurd rfl e0
        · simp
      by_cases h32 : s.length ≤ 32
      · have hc : ¬ classF (s[0]'(by omega)) = 2 := fun e => h0 ⟨h1, h32, by rw [List.getElem?_eq_getElem (by omega)]; exact e⟩
        (repeat' (first | refine WP_seq ?_ | refine WP_region ?_ | refine WPL_nil ?_ | (apply WPL_t; (first | exact WT_move rfl | exact WT_assign rfl | exact WT_pick (b := true) rfl (fun _ => rfl) (fun e => by cases e) | exact WT_pick (b := false) rfl (fun e => by cases e) (fun _ => rfl) | (apply g_bin; first | exact WT_teq rfl rfl)); exact rfl) | (refine WPL_off rfl rfl rfl rfl rfl ?_) | (apply WPL_gt; exact rfl; exact rfl; exact rfl; (first | exact WT_move rfl | (apply g_bin; first | exact WT_neq rfl rfl | exact WT_gtr rfl rfl) | (apply g_call; first | exact WT_lent rfl rfl) | (apply g_idxt; first | exact WT_idxt rfl rfl rfl)); exact rfl) | refine WP_ret ?_ | refine WP_cond_t rfl ?_ | (apply WPL_on0; exact rfl; exact rfl; exact rfl; exact rfl; (apply g_callf; first | (refine WO_call Tryd.func29 rfl (class_any _) rfl ?_; rintro _ _ ⟨rfl, rfl⟩))) | (refine WPL_case rfl rfl (fun hb => ?_) (fun hb => ?_) <;> (repeat (first | replace hb := dec_t hb | replace hb := dec_f hb)) <;> (try (exfalso; first | omega))) | (refine WP_cond rfl (fun hb => ?_) (fun hb => ?_) <;> (repeat (first | replace hb := dec_t hb | replace hb := dec_f hb | replace hb := not_t hb | replace hb := not_f hb)) <;> (try (exfalso; first | omega)))))
        all_goals first | exact ⟨.inr rfl, ret1 rfl (.tmp rfl) (List.nil_sublist _) ⟨rfl, rfl⟩⟩ | (exfalso; first | omega | (simp_all; done))
      · (repeat' (first | refine WP_seq ?_ | refine WP_region ?_ | refine WPL_nil ?_ | (apply WPL_t; (first | exact WT_move rfl | exact WT_assign rfl | exact WT_pick (b := true) rfl (fun _ => rfl) (fun e => by cases e) | exact WT_pick (b := false) rfl (fun e => by cases e) (fun _ => rfl) | (apply g_bin; first | exact WT_teq rfl rfl)); exact rfl) | (refine WPL_off rfl rfl rfl rfl rfl ?_) | (apply WPL_gt; exact rfl; exact rfl; exact rfl; (first | exact WT_move rfl | (apply g_bin; first | exact WT_gtr rfl rfl) | (apply g_call; first | exact WT_lent rfl rfl)); exact rfl) | refine WP_ret ?_ | refine WP_cond_t rfl ?_ | (refine WPL_case rfl rfl (fun hb => ?_) (fun hb => ?_) <;> (repeat (first | replace hb := dec_t hb | replace hb := dec_f hb)) <;> (try (exfalso; first | omega)))))
        all_goals first | exact ⟨.inr rfl, ret1 rfl (.tmp rfl) (List.nil_sublist _) ⟨rfl, rfl⟩⟩ | (exfalso; first | omega | (simp_all; done))

end Go.Proofs.YtdpabdbeecbnmaaDoor

/- Declarations of competitions as Lean data, and how they lie in cells. No program in sight. -/
namespace Go.Fr
open Go.RowKit Go.Kx

structure Crit where
  name : List UInt8
  low : Int
  high : Int
  step : Int
  how : Int
  trim : Int
  rev : Bool
instance : DecidableEq Crit := fun a b => decidable_of_iff (a.name = b.name ∧ a.low = b.low ∧ a.high = b.high ∧ a.step = b.step ∧ a.how = b.how ∧ a.trim = b.trim ∧ a.rev = b.rev) (by cases a; cases b; simp)
structure ItemD where
  name : List UInt8
  value : Int
  most : Int
instance : DecidableEq ItemD := fun a b => decidable_of_iff (a.name = b.name ∧ a.value = b.value ∧ a.most = b.most) (by cases a; cases b; simp)
structure KeyD where
  kind : Int
  name : List UInt8
  n : Int
instance : DecidableEq KeyD := fun a b => decidable_of_iff (a.kind = b.kind ∧ a.name = b.name ∧ a.n = b.n) (by cases a; cases b; simp)
structure TieD where
  name : List UInt8
  keys : List KeyD
instance : DecidableEq TieD := fun a b => decidable_of_iff (a.name = b.name ∧ a.keys = b.keys) (by cases a; cases b; simp)
inductive Ex where
  | mk (kind : Int) (name : List UInt8) (n d : Int) (l : List Ex)
namespace Ex
def kind : Ex → Int | mk k _ _ _ _ => k
def name : Ex → List UInt8 | mk _ s _ _ _ => s
def n : Ex → Int | mk _ _ n _ _ => n
def d : Ex → Int | mk _ _ _ d _ => d
def l : Ex → List Ex | mk _ _ _ _ l => l
mutual
def beq : Ex → Ex → Bool
  | mk k s n d l, mk k' s' n' d' l' => decide (k = k') && (decide (s = s') && (decide (n = n') && (decide (d = d') && beqs l l')))
def beqs : List Ex → List Ex → Bool
  | [], [] => true
  | x :: xs, y :: ys => beq x y && beqs xs ys
  | _, _ => false
end
mutual
theorem beq_iff : ∀ a b : Ex, beq a b = true ↔ a = b
  | mk k s n d l, mk k' s' n' d' l' => by
    simp only [beq, Bool.and_eq_true, decide_eq_true_eq, beqs_iff l l', mk.injEq]
theorem beqs_iff : ∀ a b : List Ex, beqs a b = true ↔ a = b
  | [], [] => by simp [beqs]
  | [], y :: ys => by simp [beqs]
  | x :: xs, [] => by simp [beqs]
  | x :: xs, y :: ys => by simp only [beqs, Bool.and_eq_true, beq_iff x y, beqs_iff xs ys, List.cons.injEq]
end
instance : DecidableEq Ex := fun a b => if h : beq a b = true then isTrue ((beq_iff a b).1 h) else isFalse fun e => h ((beq_iff a b).2 e)
theorem eta (x : Ex) : mk x.kind x.name x.n x.d x.l = x := by cases x; rfl
theorem ext_iff' (a b : Ex) : a = b ↔ a.kind = b.kind ∧ a.name = b.name ∧ a.n = b.n ∧ a.d = b.d ∧ a.l = b.l := by
  cases a; cases b; simp [kind, name, n, d, l]
end Ex
structure RoundD where
  name : List UInt8
  panel : Int
  quota : Int
  cut : Int
  places : Bool
  free : Bool
  score : Ex
  tie : List UInt8
  tieNo : Int
instance : DecidableEq RoundD := fun a b => decidable_of_iff (a.name = b.name ∧ a.panel = b.panel ∧ a.quota = b.quota ∧ a.cut = b.cut ∧ a.places = b.places ∧ a.free = b.free ∧ a.score = b.score ∧ a.tie = b.tie ∧ a.tieNo = b.tieNo) (by cases a; cases b; simp)
structure RulesD where
  name : List UInt8
  crits : List Crit
  bonus : List ItemD
  malus : List ItemD
  ties : List TieD
  rounds : List RoundD
  prizes : List Int
  points : List Int
  best : Int
instance : DecidableEq RulesD := fun a b => decidable_of_iff (a.name = b.name ∧ a.crits = b.crits ∧ a.bonus = b.bonus ∧ a.malus = b.malus ∧ a.ties = b.ties ∧ a.rounds = b.rounds ∧ a.prizes = b.prizes ∧ a.points = b.points ∧ a.best = b.best) (by cases a; cases b; simp)

/-- Nothing is known so. -/
def noSP : SP := ⟨fun _ _ _ => False, fun h _ => h⟩
instance : Sc noSP := ⟨fun _ _ _ h => h.elim⟩

def critV (c : Crit) : List SP := [exT c.name, exI .i64 c.low, exI .i64 c.high, exI .i64 c.step, exI .i64 c.how, exI .i64 c.trim, exB c.rev]
instance {c : Crit} : Scs (critV c) := by unfold critV; infer_instance
instance : LenS critV 7 := ⟨fun _ => rfl⟩
abbrev eCrit : Enc Crit := encS critV 7 64
def itemV (c : ItemD) : List SP := [exT c.name, exI .i64 c.value, exI .i64 c.most]
instance {c : ItemD} : Scs (itemV c) := by unfold itemV; infer_instance
instance : LenS itemV 3 := ⟨fun _ => rfl⟩
abbrev eItem : Enc ItemD := encS itemV 3 32
def keyV (c : KeyD) : List SP := [exI .i64 c.kind, exT c.name, exI .i64 c.n]
instance {c : KeyD} : Scs (keyV c) := by unfold keyV; infer_instance
instance : LenS keyV 3 := ⟨fun _ => rfl⟩
abbrev eKey : Enc KeyD := encS keyV 3 32
def tieV (c : TieD) : List SP := [exT c.name, isl eKey c.keys]
instance {c : TieD} : Scs (tieV c) := by unfold tieV; infer_instance
instance : LenS tieV 2 := ⟨fun _ => rfl⟩
abbrev eTie : Enc TieD := encS tieV 2 40

def exL : Nat → List Ex → SP
  | 0, _ => noSP
  | k + 1, l => isl (encS (fun a : Ex => [exI .i64 a.kind, exT a.name, exI .i64 a.n, exI .i64 a.d, exL k a.l]) 5 64) l
def exV (k : Nat) (a : Ex) : List SP := [exI .i64 a.kind, exT a.name, exI .i64 a.n, exI .i64 a.d, exL k a.l]
instance {k : Nat} : LenS (exV k) 5 := ⟨fun _ => rfl⟩
abbrev eEx (k : Nat) : Enc Ex := encS (exV k) 5 64
theorem exL_succ (k : Nat) (l : List Ex) : exL (k + 1) l = isl (eEx k) l := rfl
instance {k : Nat} {l : List Ex} : Sc (exL k l) := by
  cases k with
  | zero => exact inferInstanceAs (Sc noSP)
  | succ k => exact inferInstanceAs (Sc (isl (eEx k) l))
instance {k : Nat} {c : Ex} : Scs (exV k c) := by unfold exV; infer_instance
def roundV (k : Nat) (y : RoundD) : List SP := [exT y.name, exI .i64 y.panel, exI .i64 y.quota, exI .i64 y.cut, exB y.places, exB y.free, exI .i64 y.score.kind, exT y.score.name, exI .i64 y.score.n, exI .i64 y.score.d, exL k y.score.l, exT y.tie, exI .i64 y.tieNo]
instance {k : Nat} {c : RoundD} : Scs (roundV k c) := by unfold roundV; infer_instance
instance {k : Nat} : LenS (roundV k) 13 := ⟨fun _ => rfl⟩
abbrev eRound (k : Nat) : Enc RoundD := encS (roundV k) 13 136
def rulesV (k : Nat) (r : RulesD) : List SP := [exT r.name, isl eCrit r.crits, isl eItem r.bonus, isl eItem r.malus, isl eTie r.ties, isl (eRound k) r.rounds, isl eI r.prizes, isl eI r.points, exI .i64 r.best]
instance {k : Nat} {c : RulesD} : Scs (rulesV k c) := by unfold rulesV; infer_instance

/-- What is known at depth k is known at depth k + 1. -/
theorem isl_im {α : Type} {fs gs : α → List SP} {sz bt : Nat} {l : List α} (h : ∀ a F w cs, CellsR F w (fs a) cs → CellsR F w (gs a) cs) : Im (isl (encS fs sz bt) l) (isl (encS gs sz bt) l) := by
  rintro F w v ⟨a, n, c, rfl, hs⟩
  refine ⟨a, n, c, rfl, hs.length, hs.cap, hs.capMax, hs.bytes, hs.nil, fun i hi => ?_⟩
  obtain ⟨b, off, cs, h1, h2, h3, h4, h5, h6⟩ := hs.elem i hi
  exact ⟨b, off, cs, h1, h2, h3, h4, h5, h6.1, h _ _ _ _ h6.2⟩
theorem exL_mono : ∀ (k : Nat) (l : List Ex), Im (exL k l) (exL (k + 1) l)
  | 0, _ => fun _ _ _ h => h.elim
  | k + 1, l => isl_im fun a F w cs h => by
    have hi : Ims [exI .i64 a.kind, exT a.name, exI .i64 a.n, exI .i64 a.d, exL k a.l] [exI .i64 a.kind, exT a.name, exI .i64 a.n, exI .i64 a.d, exL (k + 1) a.l] :=
      .cons (Im.refl _) (.cons (Im.refl _) (.cons (Im.refl _) (.cons (Im.refl _) (.cons (exL_mono k a.l) .nil))))
    exact hi.cells h
end Go.Fr

/- Expressions: their size and depth, as they are counted. No program in sight. -/
namespace Go.Fr
open Go.RowKit Go.Kx
namespace Ex
mutual
def tot : Ex → Nat
  | mk _ _ _ _ l => 1 + tots l
def tots : List Ex → Nat
  | [] => 0
  | x :: xs => tot x + tots xs
end
mutual
def depth : Ex → Nat
  | mk _ _ _ _ l => depths l + 1
def depths : List Ex → Nat
  | [] => 0
  | x :: xs => max (depth x) (depths xs)
end
mutual
def partsN : Ex → Nat → Nat
  | mk _ _ _ _ l, m => partsL l m 1
def partsL : List Ex → Nat → Nat → Nat
  | [], _, n => n
  | x :: xs, m, n => if n ≤ m then partsL xs m (n + partsN x (m - n)) else n
end
mutual
def sizeN : Ex → Nat → Nat × Nat
  | mk _ _ _ _ l, p => if 256 < p + 1 then (p + 1, 0) else ((sizesN l (p + 1) 0).1, (sizesN l (p + 1) 0).2 + 1)
def sizesN : List Ex → Nat → Nat → Nat × Nat
  | [], p, d => (p, d)
  | x :: xs, p, d => sizesN xs (sizeN x p).1 (max d (sizeN x p).2)
end
theorem tot_pos (x : Ex) : 1 ≤ x.tot := by cases x; simp [tot]
theorem tot_l (x : Ex) : x.tot = 1 + tots x.l := by cases x; rfl
theorem depth_l (x : Ex) : x.depth = depths x.l + 1 := by cases x; rfl
theorem partsN_l (x : Ex) (m : Nat) : x.partsN m = partsL x.l m 1 := by cases x; rfl
theorem sizeN_l (x : Ex) (p : Nat) : x.sizeN p = if 256 < p + 1 then (p + 1, 0) else ((sizesN x.l (p + 1) 0).1, (sizesN x.l (p + 1) 0).2 + 1) := by cases x; rfl
theorem partsL_big : ∀ (l : List Ex) (m n : Nat), m < n → partsL l m n = n
  | [], _, _, _ => rfl
  | x :: xs, m, n, h => by rw [partsL, if_neg (by omega)]
mutual
theorem partsN_spec : ∀ (x : Ex) (m : Nat), (x.partsN m ≤ m + 1) ∧ (x.tot ≤ m → x.partsN m = x.tot) ∧ (m < x.tot → m < x.partsN m)
  | mk _ _ _ _ l, m => by
    have h := partsL_spec l m 1
    simp only [partsN, tot]
    rcases Nat.eq_zero_or_pos m with h0 | h0
    · subst h0
      rw [partsL_big l 0 1 (by omega)]
      omega
    · obtain ⟨h1, h2, h3⟩ := h (by omega)
      exact ⟨h1, h2, h3⟩
theorem partsL_spec : ∀ (l : List Ex) (m n : Nat), n ≤ m + 1 → (partsL l m n ≤ m + 1) ∧ (n + tots l ≤ m → partsL l m n = n + tots l) ∧ (m < n + tots l → m < partsL l m n)
  | [], m, n, h => by simp only [partsL, tots]; omega
  | x :: xs, m, n, h => by
    simp only [partsL, tots]
    have hp := tot_pos x
    split
    · rename_i hn
      obtain ⟨h1, h2, h3⟩ := partsN_spec x (m - n)
      obtain ⟨h4, h5, h6⟩ := partsL_spec xs m (n + x.partsN (m - n)) (by omega)
      refine ⟨h4, fun hx => ?_, fun hx => ?_⟩
      · have e := h2 (by omega)
        rw [e] at h5 ⊢
        rw [h5 (by omega)]; omega
      · by_cases hc : x.tot ≤ m - n
        · have e := h2 hc
          rw [e] at h6 ⊢
          exact h6 (by omega)
        · have e := h3 (by omega)
          exact h6 (by omega)
    · omega
end
mutual
theorem sizeN_spec : ∀ (x : Ex) (p : Nat), (p < (x.sizeN p).1) ∧ ((x.sizeN p).1 ≤ p + x.tot) ∧ (p + x.tot ≤ 256 → x.sizeN p = (p + x.tot, x.depth)) ∧ (256 < p + x.tot → 256 < (x.sizeN p).1)
  | mk _ _ _ _ l, p => by
    simp only [sizeN, tot, depth]
    split
    · refine ⟨by omega, by show p + 1 ≤ _; omega, fun h => by omega, fun _ => by show 256 < p + 1; omega⟩
    · obtain ⟨h1, h2, h3, h4⟩ := sizesN_spec l (p + 1) 0
      refine ⟨by show p < (sizesN l (p + 1) 0).1; omega, by show (sizesN l (p + 1) 0).1 ≤ _; omega, fun h => ?_, fun h => ?_⟩
      · rw [h3 (by omega)]; simp; omega
      · exact h4 (by omega)
theorem sizesN_spec : ∀ (l : List Ex) (p d : Nat), (p ≤ (sizesN l p d).1) ∧ ((sizesN l p d).1 ≤ p + tots l) ∧ (p + tots l ≤ 256 → sizesN l p d = (p + tots l, max d (depths l))) ∧ (256 < p + tots l → 256 < (sizesN l p d).1)
  | [], p, d => by simp [sizesN, tots, depths]
  | x :: xs, p, d => by
    simp only [sizesN, tots, depths]
    obtain ⟨h1, h2, h3, h4⟩ := sizeN_spec x p
    obtain ⟨h5, h6, h7, h8⟩ := sizesN_spec xs (x.sizeN p).1 (max d (x.sizeN p).2)
    refine ⟨by omega, by omega, fun h => ?_, fun h => ?_⟩
    · have e := h3 (by omega)
      rw [e] at h7 ⊢
      rw [h7 (by show p + x.tot + tots xs ≤ 256; omega)]
      simp only [Prod.mk.injEq]
      exact ⟨by omega, by rw [Nat.max_assoc]⟩
    · by_cases hc : 256 < p + x.tot
      · have := h4 hc; omega
      · have e := h3 (by omega)
        rw [e] at h8 ⊢
        exact h8 (by show 256 < p + x.tot + tots xs; omega)
end
theorem tots_mem : ∀ {l : List Ex} {x : Ex}, x ∈ l → x.tot ≤ tots l
  | y :: ys, x, h => by
    rcases List.mem_cons.1 h with rfl | h
    · simp [tots]
    · have := tots_mem h; simp only [tots]; omega
theorem length_le_tots : ∀ l : List Ex, l.length ≤ tots l
  | [] => by simp [tots]
  | x :: xs => by have := length_le_tots xs; have := tot_pos x; simp only [tots, List.length_cons]; omega
theorem tots_drop {l : List Ex} {k : Nat} (h : k < l.length) : tots (l.drop k) = l[k].tot + tots (l.drop (k + 1)) := by
  rw [List.drop_eq_getElem_cons h, tots]
theorem depths_drop {l : List Ex} {k : Nat} (h : k < l.length) : depths (l.drop k) = max l[k].depth (depths (l.drop (k + 1))) := by
  rw [List.drop_eq_getElem_cons h, depths]
theorem partsL_drop {l : List Ex} {k m n : Nat} (h : k < l.length) : partsL (l.drop k) m n = if n ≤ m then partsL (l.drop (k + 1)) m (n + l[k].partsN (m - n)) else n := by
  rw [List.drop_eq_getElem_cons h, partsL]
theorem sizesN_drop {l : List Ex} {k p d : Nat} (h : k < l.length) : sizesN (l.drop k) p d = sizesN (l.drop (k + 1)) (l[k].sizeN p).1 (max d (l[k].sizeN p).2) := by
  rw [List.drop_eq_getElem_cons h, sizesN]
theorem depth_le_tot : (∀ x : Ex, x.depth ≤ x.tot) := by
  intro x
  have key : ∀ n (x : Ex), x.tot ≤ n → x.depth ≤ x.tot := by
    intro n
    induction n with
    | zero => intro x h; have := tot_pos x; omega
    | succ n ih =>
      intro x h
      rw [depth_l, tot_l]
      rw [tot_l] at h
      have : ∀ l : List Ex, tots l ≤ n → depths l ≤ tots l := by
        intro l
        induction l with
        | nil => intro _; simp [depths]
        | cons y ys ihl =>
          intro h
          simp only [tots] at h
          have h1 := ih y (by omega)
          have h2 := ihl (by omega)
          simp only [depths, tots]; omega
      have := this x.l (by omega)
      omega
  exact key _ x (Nat.le_refl _)
end Ex
theorem Leads_envd {C : Cx} {env env' : Env} {loc loc' : List Ent} (n : Nat) (he : ∀ t q, look t env' = some q → look t env = some q) (hs : loc.drop n = loc') : Leads C env loc env' loc' := Leads_env he (hs ▸ List.drop_sublist n loc)
/-- Ways that meet behind a piece of code, whatever follows. -/
theorem WP_cut1 {α : Type} {C : Cx} {c : Code} {Q : Post} {env : Env} {loc : List Ent} (I : α → Env × List Ent) (ok : α → Prop) (h : WP C c (cutP C I ok Q) env loc) (k : ∀ z, ok z → Q .normal (I z).1 (I z).2) : WP C c Q env loc := by
  constructor
  intro F a w hR
  refine Code.wp_mono ?_ (h.out F a w hR)
  rintro e a' w' ⟨F', env', loc', hR', hq⟩
  cases e with
  | normal =>
    obtain ⟨z, hz, hl⟩ := hq
    obtain ⟨F2, hR2⟩ := hl F' a' w' hR'
    exact ⟨F2, _, _, hR2, k z hz⟩
  | _ => exact ⟨F', env', loc', hR', hq⟩
theorem WPL_vv {C : Cx} {ops : Array Oper} {Q : Post} {l : List Oper} {env : Env} {loc : List Ent} {k T sz n : Nat} {v : Value} {ps : List SP} (he : loc[k]? = some (vec v T sz n ps)) (hn : 0 < n) (h : ∀ b c, v = .slice (some ⟨b, 0, none⟩) n c → WPL C ops Q l env loc) : WPL C ops Q l env loc := ⟨fun F a w hR => by obtain ⟨b, c, hv, _, _⟩ := vec_open hR he hn; exact (h b c hv).out F a w hR⟩
theorem Leads_nilv {C : Cx} {env env' : Env} {loc loc' : List Ent} (T sz : Nat) (h : Leads C env (vec (.slice none 0 0) T sz 0 [] :: loc) env' loc') : Leads C env loc env' loc' := (LeadsS_vec_nil (T := T) (sz := sz)).leads.trans h
/-- At depth 0 nothing is known. -/
theorem Says_ex0 {x : Ex} : Says (agg (exV 0 x)) False := Says_agg (i := 4) (p := noSP) rfl ⟨fun h => h⟩
end Go.Fr

/- Frame: elements of rows of one's own at any index; boxes that are written no more are read; slices of any length. No program in sight. -/
namespace Go.Fr
open Go.RowKit Go.Kx
theorem flat_drop {α : Type} {fs : α → List SP} {s : Nat} (h0 : ∀ a, (fs a).length = s) : ∀ (l : List α) (i : Nat) (hi : i < l.length), (l.flatMap fs).drop (i * s) = fs l[i] ++ (l.drop (i + 1)).flatMap fs
  | x :: xs, 0, _ => by simp
  | x :: xs, i + 1, hi => by
    rw [List.flatMap_cons, show (i + 1) * s = (fs x).length + i * s by rw [h0, Nat.succ_mul, Nat.add_comm], ← List.drop_drop, List.drop_left]
    rw [flat_drop h0 xs i (by simpa using hi)]
    simp
theorem flat_take_at {α : Type} {fs : α → List SP} {s : Nat} (h0 : ∀ a, (fs a).length = s) (l : List α) (i : Nat) (hi : i < l.length) : ((l.flatMap fs).drop (i * s)).take s = fs l[i] := by
  rw [flat_drop h0 l i hi, List.take_append_of_le_length (by rw [h0]; omega), List.take_of_length_le (by rw [h0]; omega)]
theorem flat_take_n {α : Type} {fs : α → List SP} {s : Nat} (h0 : ∀ a, (fs a).length = s) : ∀ (l : List α) (i : Nat), (l.flatMap fs).take (i * s) = (l.take i).flatMap fs
  | [], i => by simp
  | x :: xs, 0 => by simp
  | x :: xs, i + 1 => by
    rw [List.flatMap_cons, show (i + 1) * s = (fs x).length + i * s by rw [h0, Nat.succ_mul, Nat.add_comm], List.take_length_add_append, flat_take_n h0 xs i]
    simp
theorem putC_flat {α : Type} {fs : α → List SP} {s : Nat} (h0 : ∀ a, (fs a).length = s) (l : List α) (i : Nat) (hi : i < l.length) (x : α) : putC (l.flatMap fs) (i * s) (fs x) = (l.set i x).flatMap fs := by
  unfold putC
  have e1 : i * s + (fs x).length = (i + 1) * s := by rw [h0, Nat.succ_mul]
  have e2 : (l.flatMap fs).drop ((i + 1) * s) = (l.drop (i + 1)).flatMap fs := by
    rw [Nat.succ_mul, ← List.drop_drop, flat_drop h0 l i hi, ← h0 l[i], List.drop_left]
  rw [e1, e2, flat_take_n h0, List.set_eq_take_append_cons_drop, if_pos hi]
  simp [List.append_assoc]

section
variable {C : Cx} {H : Nat → Prop} {l0 : List Ent} {env : Env} {loc : List Ent} {d : Nat} {dst : Option Tmp} {ty : TypeId} {pos : String} {af : Array Edge} {g : Option (Nat × Bool)} {K : Env → List Ent → Prop}
/-- One element of a row of one's own. -/
theorem WT_loadE {α : Type} {fs : α → List SP} {l : List α} {t : TypeId} {x : Operand} {k b i sz T tot : Nat} {dd : TypeDesc} {bt : Nat} {z : Value} (hx : ev env x = some (ex (.pointer (some ⟨b, 0 + i * sz, none⟩)))) (he : loc[k]? = some (row b T tot (l.flatMap fs))) (hu : C.P.underlying t = some dd) [hl : LenS fs sz] [hT : TI C.P t sz bt z] (hi : i < l.length := by first | assumption | omega | (simp; omega)) (hH : H b := by first | trivial | exact feet_row (k := 0) rfl | exact feet_row (k := 1) rfl | exact feet_row (k := 2) rfl | exact feet_row (k := 3) rfl | exact feet_row (k := 4) rfl | exact feet_row (k := 5) rfl | exact feet_row (k := 6) rfl | exact feet_row (k := 7) rfl) (hd : Desc.aggB dd = true := by rfl) :
    WT C (Hold H) ⟨dst, .load t x, ty, pos, af, g⟩ (agg (fs (l[i]'hi))) env loc := by
  have h1 : Nat.ble (0 + i * sz + sz) (l.flatMap fs).length = true := by
    rw [Nat.ble_eq, length_flat hl.len, Nat.zero_add]
    have : (i + 1) * sz ≤ l.length * sz := Nat.mul_le_mul_right _ hi
    rw [Nat.succ_mul] at this; exact this
  have h := WT_loada (C := C) (H := H) (dst := dst) (ty := ty) (pos := pos) (af := af) (g := g) hx he hu (hT := hT) hH hd h1
  rw [Nat.zero_add, flat_take_at hl.len l i hi] at h
  exact h
/-- One element is stored. -/
theorem WO_storeE {α : Type} {fs : α → List SP} {l : List α} {v : α} {t : TypeId} {x y : Operand} {k b i sz T tot bt : Nat} {z : Value} (hx : ev env x = some (ex (.pointer (some ⟨b, 0 + i * sz, none⟩)))) (he : loc[k]? = some (row b T tot (l.flatMap fs))) (hy : ev env y = some (agg (fs v))) [hl : LenS fs sz] [hs : Scs (fs v)] [hT : TI C.P t sz bt z] (hk : K env (loc.set k (row b T tot ((l.set i v).flatMap fs)))) (hi : i < l.length := by first | assumption | omega | (simp; omega)) (hH : l0.Sublist (loc.eraseIdx k) := by exact List.nil_sublist _) : WO C (feet l0) ⟨none, .store t x y, ty, pos, af, g⟩ K env loc := by
  have hT' : TI C.P t (fs v).length bt z := by rw [hl.len]; exact hT
  refine WO_store (k := k) hx hy he (hT := hT') (hc := AsC_agg) (hs := hs) ?_ ?_ hH
  · rw [Nat.zero_add, putC_flat hl.len l i hi]; exact hk
  · rw [hl.len, length_flat hl.len, Nat.zero_add]
    have : (i + 1) * sz ≤ l.length * sz := Nat.mul_le_mul_right _ hi
    rw [Nat.succ_mul] at this; exact this
theorem WT_loadx {t : TypeId} {x : Operand} {b : Nat} {p : SP} {ps : List SP} {dd : TypeDesc} (hx : ev env x = some (fpx b (p :: ps))) (hu : C.P.underlying t = some dd) (hd : Desc.aggB dd = false := by rfl) : WT C (Hold H) ⟨dst, .load t x, ty, pos, af, g⟩ p env loc := by
  constructor
  intro F a w hR
  obtain ⟨hv, h1, h2, h3⟩ := ev_eval hR hx
  obtain ⟨u, h4, h5⟩ := h3 0 p rfl
  exact ⟨u, h5, fun w' hs => run_load_one hv hu hd ((World.cell?_of_block (w := w) (hs b h2 (.inl h1))).trans h4)⟩
end
theorem vec_slice {C : Cx} {F : Nat → Prop} {env : Env} {loc : List Ent} {a : Act} {w : World} (hR : Rel C F env loc a w) {k T sz n : Nat} {v : Value} {ps : List SP} (he : loc[k]? = some (vec v T sz n ps)) : ∃ oa c, v = .slice oa n c := by
  obtain ⟨xs, h1, _⟩ := hR.good.rel _ (List.mem_append_left _ (List.mem_of_getElem? he))
  rcases h1.2 with ⟨h2, h3⟩ | ⟨g, cap, cur, h2, _⟩
  · subst h3; exact ⟨none, 0, h2⟩
  · exact ⟨_, _, h2⟩
theorem WPL_vsl {C : Cx} {ops : Array Oper} {Q : Post} {l : List Oper} {env : Env} {loc : List Ent} {k T sz n : Nat} {v : Value} {ps : List SP} (he : loc[k]? = some (vec v T sz n ps)) (h : ∀ oa c, v = .slice oa n c → WPL C ops Q l env loc) : WPL C ops Q l env loc := ⟨fun F a w hR => by obtain ⟨b, c, hv⟩ := vec_slice hR he; exact (h b c hv).out F a w hR⟩
theorem Leads_row_vec {C : Cx} {env env' : Env} {loc loc' : List Ent} {k b T tot sz n c : Nat} {ps : List SP} (he : loc[k]? = some (row b T tot ps)) (ht : tot = c * sz) (hn : ps.length = n * sz) (h0 : 0 < sz) (hc : c ≤ maxLen) (h : Leads C env (loc.set k (vec (.slice (some ⟨b, 0, none⟩) n c) T sz n ps)) env' loc') : Leads C env loc env' loc' := (LeadsS_row_vec he ht hn h0 hc).leads.trans h
end Go.Fr

/- Frame: what a box's cell leads to is frozen. No program in sight. -/
namespace Go.Fr
open Go.RowKit Go.Kx
theorem Rel.frz {C : Cx} {F : Nat → Prop} {env : Env} {loc : List Ent} {a : Act} {w : World} {k : Nat} {e : Ent} (hR : Rel C F env loc a w) (he : loc[k]? = some e) : Rel C (fun j => F j ∨ j ∈ e.foot) env (loc.eraseIdx k) a w := by
  have hmem : e ∈ loc ++ C.out := List.mem_append_left _ (List.mem_of_getElem? he)
  have hm : ∀ j, F j → j < w.heap.size → (F j ∨ j ∈ e.foot) ∧ w.heap[j]? = w.heap[j]? := fun j hj _ => ⟨.inl hj, rfl⟩
  have hG := hR.good.perm ((erase_perm he).append_right C.out)
  have hdis : ∀ e2 ∈ loc.eraseIdx k ++ C.out, ∀ b ∈ e2.foot, b ∉ e.foot := by
    intro e2 h2 b hb hb2
    have hd := hG.disj
    rw [List.cons_append] at hd
    exact (List.pairwise_cons.1 hd).1 e2 h2 b hb2 hb
  have hsub : ∀ e2 ∈ loc.eraseIdx k ++ C.out, e2 ∈ loc ++ C.out := fun e2 h => by
    rcases List.mem_append.1 h with h | h
    · exact List.mem_append_left _ (List.mem_of_mem_eraseIdx h)
    · exact List.mem_append_right _ h
  refine ⟨⟨fun e2 h2 => e2.mono (hR.good.rel e2 (hsub e2 h2)) hm fun _ _ => rfl, fun e2 h2 j hj => ⟨(hR.good.lt e2 (hsub e2 h2) j hj).1, ?_⟩, ?_⟩, fun t' q' hq => q'.mono (hR.env t' q' hq) hm, hR.size, hR.defers, hR.ch, fun e2 h2 => hR.own e2 (List.mem_of_mem_eraseIdx h2), fun j hj hlt => .inl (hR.grow j hj hlt)⟩
  · rintro (h | h)
    · exact (hR.good.lt e2 (hsub e2 h2) j hj).2 h
    · exact hdis e2 h2 j hj h
  · have := hG.disj
    rw [List.cons_append] at this
    exact (List.pairwise_cons.1 this).2
theorem Leads_frzcell {C : Cx} {env : Env} {loc : List Ent} {j k i b T tot : Nat} {e : Ent} {ps : List SP} {p0 p : SP} (hj : loc[j]? = some e) (hk : (loc.eraseIdx j)[k]? = some (row b T tot ps)) (hi : ps[i]? = some p0)
    (hc : ∀ F w v, e.rel F w → (∀ b ∈ e.foot, b < w.heap.size) → p0.rel F w v → p.rel (fun j => F j ∨ j ∈ e.foot) w v) : Leads C env loc env ((loc.eraseIdx j).set k (row b T tot (ps.set i p))) := by
  intro F a w hR
  have hR2 := hR.frz hj
  have hmem : e ∈ loc ++ C.out := List.mem_append_left _ (List.mem_of_getElem? hj)
  have hmem2 : row b T tot ps ∈ loc ++ C.out := List.mem_append_left _ (List.mem_of_mem_eraseIdx (List.mem_of_getElem? hk))
  refine ⟨_, hR2.turn hk (fun _ h => h) ?_⟩
  obtain ⟨cur, h1, h2, h3⟩ := hR.good.rel _ hmem2
  refine ⟨cur, h1, h2, fun n q hq => ?_⟩
  by_cases hn : n = i
  · subst hn
    have hlt : n < ps.length := (List.getElem?_eq_some_iff.1 hi).1
    rw [List.getElem?_set_self hlt] at hq
    cases hq
    obtain ⟨v, h4, h5⟩ := h3 n p0 hi
    exact ⟨v, h4, hc F w v (hR.good.rel e hmem) (fun b hb => (hR.good.lt e hmem b hb).1) h5⟩
  · rw [List.getElem?_set_ne (Ne.symm hn)] at hq
    obtain ⟨v, h4, h5⟩ := h3 n q hq
    exact ⟨v, h4, q.mono h5 fun j hj _ => ⟨.inl hj, rfl⟩⟩
theorem Leads_fmapcell {κ : Type} [DecidableEq κ] [MK κ] {C : Cx} {env : Env} {loc : List Ent} {j k i b bm T tot : Nat} {m : List (κ × SP)} {ps : List SP} (hj : loc[j]? = some (omap bm m)) (hk : (loc.eraseIdx j)[k]? = some (row b T tot ps)) (hi : ps[i]? = some (ex (.map (some bm)))) : Leads C env loc env ((loc.eraseIdx j).set k (row b T tot (ps.set i (fmap m)))) := by
  refine Leads_frzcell hj hk hi ?_
  rintro F w v h hlt hv
  exact ⟨bm, hv, .inr (by simp [omap]), hlt bm (by simp [omap]), h.mono (fun j hj _ => ⟨.inl hj, rfl⟩) rfl⟩
theorem WPY_vsl {C : Cx} {H : Nat → Prop} {n0 : Nat} {ops : Array Oper} {Q : Post} {fuel : Nat} {listed : Array Bool} {env : Env} {loc : List Ent} {k T sz n : Nat} {v : Value} {ps : List SP} (he : loc[k]? = some (vec v T sz n ps)) (h : ∀ oa c, v = .slice oa n c → WPY C H n0 ops Q fuel listed env loc) : WPY C H n0 ops Q fuel listed env loc := ⟨fun F a w hR => by obtain ⟨oa, c, hv⟩ := vec_slice hR he; exact (h oa c hv).out F a w hR⟩
end Go.Fr

/- Frame: single cells of rows of one's own at any index. No program in sight. -/
namespace Go.Fr
open Go.RowKit Go.Kx
theorem putC_one {ps : List SP} {off : Nat} {p : SP} (h : off < ps.length) : putC ps off [p] = ps.set off p := by
  unfold putC
  rw [List.set_eq_take_append_cons_drop, if_pos h]
  simp
theorem flat_set1 {α : Type} {fs : α → List SP} {s : Nat} (h0 : ∀ a, (fs a).length = s) : ∀ (l : List α) (i : Nat) (hi : i < l.length) (j : Nat) (_ : j < s) (p : SP) (x : α) (_ : (fs l[i]).set j p = fs x), (l.flatMap fs).set (i * s + j) p = (l.set i x).flatMap fs
  | y :: ys, 0, _, j, hj, p, x, hx => by
    simp only [Nat.zero_mul, Nat.zero_add, List.flatMap_cons, List.set_cons_zero]
    rw [List.set_append_left _ _ (by rw [h0]; exact hj)]
    rw [show (fs y).set j p = fs x from hx]
  | y :: ys, i + 1, hi, j, hj, p, x, hx => by
    simp only [List.flatMap_cons, List.set_cons_succ]
    rw [List.set_append_right _ _ (by rw [h0, Nat.succ_mul]; omega), h0, show (i + 1) * s + j - s = i * s + j by rw [Nat.succ_mul]; omega]
    rw [flat_set1 h0 ys i (by simpa using hi) j hj p x (by simpa using hx)]
section
variable {C : Cx} {H : Nat → Prop} {l0 : List Ent} {env : Env} {loc : List Ent} {d : Nat} {dst : Option Tmp} {ty : TypeId} {pos : String} {af : Array Edge} {g : Option (Nat × Bool)} {K : Env → List Ent → Prop}
theorem WO_store1 {t : TypeId} {x y : Operand} {k b off T tot : Nat} {ps : List SP} {p : SP} {bt : Nat} {z : Value} (hx : ev env x = some (ex (.pointer (some ⟨b, off, none⟩)))) (hy : ev env y = some p) (he : loc[k]? = some (row b T tot ps)) [hs : Sc p] [hT : TI C.P t 1 bt z] (hk : K env (loc.set k (row b T tot (ps.set off p)))) (ho : off < ps.length := by first | assumption | omega) (hH : l0.Sublist (loc.eraseIdx k) := by exact List.nil_sublist _) : WO C (feet l0) ⟨none, .store t x y, ty, pos, af, g⟩ K env loc := by
  refine WO_store (k := k) (qs := [p]) hx hy he (hc := AsC_one) (hs := inferInstance) (hT := hT) ?_ ?_ hH
  · rw [putC_one ho]; exact hk
  · exact ho
end
end Go.Fr

/- Frame: rows that are weakened, and frozen so. No program in sight. -/
namespace Go.Fr
open Go.RowKit Go.Kx
theorem Ims.get {ps qs : List SP} (h : Ims ps qs) : ∀ {i : Nat} {q : SP}, qs[i]? = some q → ∃ p, ps[i]? = some p ∧ Im p q := by
  induction h with
  | nil => intro i q hq; simp at hq
  | cons h _ ih =>
    intro i q hq
    cases i with
    | zero => simp at hq; subst hq; exact ⟨_, rfl, h⟩
    | succ i => exact ih (by simpa using hq)
theorem Leads_row_im {C : Cx} {env : Env} {loc : List Ent} {k b T tot : Nat} {ps qs : List SP} (he : loc[k]? = some (row b T tot ps)) (h : Ims ps qs) : Leads C env loc env (loc.set k (row b T tot qs)) :=
  (LeadsS_turn (e' := row b T tot qs) he (fun _ hx => hx) (by
    rintro F w ⟨cur, h1, h2, h3⟩
    refine ⟨cur, h1, h2, fun i q hq => ?_⟩
    obtain ⟨p, hp, hi⟩ := h.get hq
    obtain ⟨v, hv, hr⟩ := h3 i p hp
    exact ⟨v, hv, hi _ _ _ hr⟩)).leads
theorem WPL_frowi {C : Cx} {env : Env} {loc : List Ent} {ops : Array Oper} {Q : Post} {ol : List Oper} {k b T n c t tot : Nat} {ps : List SP} {α : Type} {E : Enc α} {fs : α → List SP} (l : List α) (ht : look t env = some (ex (.slice (some ⟨b, 0, none⟩) n c))) (he : loc[k]? = some (row b T tot ps)) [hE : Fits E fs] (hps : Ims ps (l.flatMap fs)) (hn : l.length = n) (h : WPL C ops Q ol ((t, isl E l) :: env) (loc.eraseIdx k)) (htot : tot = c * E.size := by first | rfl | omega) (hc : c ≤ maxLen := by first | assumption | omega | (simp only [maxLen]; omega)) (hf0 : ∀ a, (fs a).length = E.size := by exact fun _ => rfl) (hpos : 0 < E.size := by first | decide | exact Nat.zero_lt_succ _) (hby : n * E.bytes ≤ 140737488355328 := by first | omega | (simp only [eSl, eByte]; omega)) : WPL C ops Q ol env loc := by
  refine WPL_leads (Leads_row_im he hps) ?_
  have hk : k < loc.length := (List.getElem?_eq_some_iff.1 he).1
  refine WPL_frow (k := k) (E := E) (fs := fs) (c := c) l ht (List.getElem?_set_self hk) rfl hn ?_ htot hc hf0 hpos hby
  have e : (loc.set k (row b T tot (l.flatMap fs))).eraseIdx k = loc.eraseIdx k := by
    rw [List.eraseIdx_set_eq]
  rw [e]; exact h
theorem at_dst (d : Nat) {C : Cx} {ops : Array Oper} {Q : Post} {op : Op} {ty : TypeId} {pos : String} {af : Array Edge} {g : Option (Nat × Bool)} {rest : List Oper} {env : Env} {loc : List Ent} (h : WPL C ops Q (⟨some d, op, ty, pos, af, g⟩ :: rest) env loc) : WPL C ops Q (⟨some d, op, ty, pos, af, g⟩ :: rest) env loc := h
end Go.Fr

/- Frame: closures, what they have captured known by what is known of it. No program in sight. -/
namespace Go.Fr
open Go.RowKit Go.Kx
/-- A function value that has captured these. -/
def clos (f : Fn) (ps : List SP) : SP where
  rel F w u := ∃ vs : List Value, u = .func f #[] vs.toArray ∧ CellsR F w ps vs
  mono := fun ⟨vs, h1, h2⟩ hk => ⟨vs, h1, h2.mono hk⟩
instance {f : Fn} {ps : List SP} : Sc (clos f ps) := ⟨by rintro F w v ⟨vs, rfl, _⟩; rfl⟩
/-- Captured values of which a slot says more. -/
inductive CapUp (env : Env) : List SP → List SP → Prop
  | nil : CapUp env [] []
  | keep {p : SP} {ps qs : List SP} (h : CapUp env ps qs) : CapUp env (p :: ps) (p :: qs)
  | slot {v : Value} {q : SP} {ps qs : List SP} (t : Nat) (ht : Fr.look t env = some q) (hq : ∀ F w u, q.rel F w u → u = v) (h : CapUp env ps qs) : CapUp env (ex v :: ps) (q :: qs)
section
variable {C : Cx} {S : (Nat → Prop) → World → World → Prop} {H : Nat → Prop} {l0 : List Ent} {env : Env} {loc : List Ent} {d : Nat} {dst : Option Tmp} {ty : TypeId} {pos : String} {af : Array Edge} {g : Option (Nat × Bool)} {K : Env → List Ent → Prop}
theorem CapUp.cells {F : Nat → Prop} {a : Act} {w : World} (hR : Rel C F env loc a w) : ∀ {ps qs : List SP} {vs : List Value}, CapUp env ps qs → CellsR F w ps vs → CellsR F w qs vs
  | _, _, vs, .nil, h => h
  | _, _, vs, .keep (p := p) (ps := ps) (qs := qs) k, h => by
    have hl : vs.length = ps.length + 1 := h.len
    match vs, hl with
    | v :: vs, hl =>
      obtain ⟨u, h1, h2⟩ := h.at_ 0 p rfl
      cases h1
      have ht : CellsR F w ps vs := ⟨by simpa using hl, fun i q hq => h.at_ (i + 1) q hq⟩
      exact .cons h2 (k.cells hR ht)
  | _, _, vs, .slot (v := v0) (q := q) (ps := ps) (qs := qs) t ht hq k, h => by
    have hl : vs.length = ps.length + 1 := h.len
    match vs, hl with
    | v :: vs, hl =>
      obtain ⟨u, h1, h2⟩ := h.at_ 0 (ex v0) rfl
      have hv : v = v0 := by
        have e : v = u := by simpa using h1
        rw [e]; exact h2
      have ht' : CellsR F w ps vs := ⟨by simpa using hl, fun i q hq => h.at_ (i + 1) q hq⟩
      have h3 := hR.env t q ht
      have h4 := hq _ _ _ h3
      rw [h4, ← hv] at h3
      exact .cons h3 (k.cells hR ht')
theorem g_mkfn {fn : Fn} {a b : Array Operand} {p : SP} (h : WT C S ⟨dst, .makeFunc fn a b, ty, pos, af, g⟩ p env loc) : WT C S ⟨dst, .makeFunc fn a b, ty, pos, af, g⟩ p env loc := h
theorem WT_mkclos {fn : Fn} {caps : Array Operand} {ps : List SP} (h : caps.toList.map (ev env) = ps.map some) : WT C S ⟨dst, .makeFunc fn #[] caps, ty, pos, af, g⟩ (clos fn ps) env loc := by
  constructor
  intro F a w hR
  refine ⟨.func fn #[] (caps.toList.map a.eval).toArray, ⟨_, rfl, call_cells hR h⟩, fun w' _ => ?_⟩
  have e : (caps.toList.map a.eval).toArray = caps.map a.eval := by
    apply Array.ext'
    simp
  rw [e]
  generalize a.eval = ρ
  simp [execOp, Instr.makeFunc, go_sem]
/-- A call of a closure. -/
theorem WO_callC {f : FuncId} {fn : Func} {c : Code} {x : Operand} {ps caps : List SP} {xs : Array Operand} {ts : Array TypeId} {args : List SP} {inn rest : List Ent} {R : SP → List Ent → Prop} (hx : ev env x = some (clos (.func f) ps)) (hcap : CapUp env ps caps) (ht : Takes loc inn rest) (hf : C.P.funcs[f]? = some fn) (hbody : fn.body = some c) (hc : FnC C.P f (args ++ caps) inn R) (ha : xs.toList.map (ev env) = args.map some) (hk : ∀ p loc', R p loc' → K ((d, p) :: env) (loc' ++ rest)) (hname : (fn.name == "runtime.NumGoroutine") = false := by rfl) (hd : Nat.blt d C.N = true := by rfl) (hH : ∀ b, H b → ∀ e ∈ inn, b ∉ e.foot := by first | exact fun _ _ e he => absurd he (by simp) | exact fun _ h => absurd h (by rintro ⟨_, h, _⟩; cases h)) : WO C H ⟨some d, .call ⟨.value x, xs, ts⟩, ty, pos, af, g⟩ K env loc := by
  constructor
  intro F a w hR
  have hG0 := ht.good hR.good
  obtain ⟨vs, he, hv⟩ := ev_eval hR hx
  have hcv : CellsR F w (args ++ caps) (xs.toList.map a.eval ++ vs) := (call_cells hR ha).app (hcap.cells hR hv)
  unfold Oper.wp
  rw [run_callv he hf hbody hname]
  refine (hc F w _ _ hG0 hcv).mono ?_
  rintro e2 w' ⟨v, F', p, loc', rfl, hRp, hp, hG, hch, hgr, hown⟩
  refine ⟨F', _, _, hR.calledG ht hp hG hch hgr hown hd, hch.size, hgr, fun b hb hF => hch.block b hb ?_, hk p loc' hRp⟩
  rintro ⟨e', he', h⟩
  rcases hF with hF | hF
  · exact (hG0.lt _ (List.mem_append_left _ he') b h).2 hF
  · exact hH b hF e' he' h
end
end Go.Fr

/- Frame: the statement that ranges over a function whose rounds may leave by return; code in a round's frame. No program in sight. -/
namespace Go.Fr
open Go.RowKit Go.Kx
class CalmC (Fe : Fence) : Prop where
  out : Calm Fe
instance : CalmC Fence.wide := ⟨.inl rfl⟩
instance {l : Nat} : CalmC (Fence.wide.inRound l) := ⟨.inr ⟨l, rfl⟩⟩
section
variable {C : Cx} {Fe : Fence} {n : Nat} {ops : Array Oper} {Q : Post} {env : Env} {loc : List Ent}
theorem WPC_leads {c : Code} {env' : Env} {loc' : List Ent} (hl : Leads C env loc env' loc') (h : WPC C Fe n c Q env' loc') : WPC C Fe n c Q env loc := ⟨fun F a w hR => let ⟨F', hR'⟩ := hl F a w hR; h.out F' a w hR'⟩
theorem WPC_seq {x y : Code} (h : WPC C Fe n x (thenP (fun env loc => WPC C Fe n y Q env loc) Q) env loc) : WPC C Fe n (.seq x y) Q env loc := by
  refine ⟨fun F a w hR => wpIn_seq (wpIn_mono (h.out F a w hR) ?_)⟩
  rintro e a' w' ⟨F', env', loc', hR', hq⟩
  cases e with
  | normal => exact hq.out F' a' w' hR'
  | _ => exact ⟨F', env', loc', hR', hq⟩
theorem WPC_skip (h : Q .normal env loc) : WPC C Fe n .skip Q env loc := ⟨fun F _ _ hR => wpIn_skip ⟨F, env, loc, hR, h⟩⟩
theorem WPC_ret (h : Q .ret env loc) : WPC C Fe n .ret Q env loc := ⟨fun F _ _ hR => wpIn_ret ⟨F, env, loc, hR, h⟩⟩
theorem WPC_exit {id : Nat} (h : Q (.exit id) env loc) : WPC C Fe n (.exit id) Q env loc := ⟨fun F _ _ hR => wpIn_exit ⟨F, env, loc, hR, h⟩⟩
theorem WPC_blk {id : Nat} {c : Code} (h : WPC C Fe n c (inBlockP id Q) env loc) : WPC C Fe n (.block id c) Q env loc := by
  refine ⟨fun F a w hR => wpIn_block (wpIn_mono (h.out F a w hR) ?_)⟩
  rintro e a' w' ⟨F', env', loc', hR', hq⟩
  cases e with
  | exit k =>
    simp only [inBlockP] at hq
    simp only [Exit.inBlock]
    split at hq
    · rename_i hb
      rw [if_pos (Nat.eq_of_beq_eq_true hb)]; exact ⟨F', env', loc', hR', hq⟩
    · rename_i hb
      rw [if_neg (fun h => by subst h; rw [Nat.beq_refl] at hb; cases hb)]; exact ⟨F', env', loc', hR', hq⟩
  | _ => exact ⟨F', env', loc', hR', hq⟩
theorem WPC_cond {c : Operand} {x y : Code} {b : Bool} (hc : ev env c = some (exB b)) (ht : b = true → WPC C Fe n x Q env loc) (hf : b = false → WPC C Fe n y Q env loc) : WPC C Fe n (.cond c x y) Q env loc := by
  constructor
  intro F a w hR
  have hv : a.eval c = .bool b := ev_eval hR hc
  refine wpIn_cond hv ?_
  cases b with
  | true => exact (ht rfl).out F a w hR
  | false => exact (hf rfl).out F a w hR
theorem WPC_cond_t {c : Operand} {x y : Code} (hc : ev env c = some (exB true)) (h : WPC C Fe n x Q env loc) : WPC C Fe n (.cond c x y) Q env loc := WPC_cond hc (fun _ => h) (fun e => by cases e)
theorem WPC_cond_f {c : Operand} {x y : Code} (hc : ev env c = some (exB false)) (h : WPC C Fe n y Q env loc) : WPC C Fe n (.cond c x y) Q env loc := WPC_cond hc (fun e => by cases e) (fun _ => h)
theorem WPI_on {H : Nat → Prop} {o : Oper} {rest : List Oper} {j d : Nat} {want : Bool} [hFe : CalmC Fe] (hdf : ∀ c, o.op ≠ .defer c) (hg : o.guard = some (j, want)) (hj : (ops[j]?).bind (·.dst) = some d) (hd : Nat.blt d C.N = true) (he : Fr.look d env = some (exB want))
    (h : WO C H o (fun env loc => WPI C Fe n ops Q rest env loc) env loc) : WPI C Fe n ops Q (o :: rest) env loc := by
  constructor
  intro F a w hR
  have hy := yielded_of hR hj (by simpa [Nat.blt_eq] using hd) he
  unfold wpListIn
  rw [if_pos (by simp [Region.wanted, hg, hy])]
  exact in_of_wp hFe.out hdf (upon_mono (fun a' w' ⟨F', env', loc', hR', _, _, _, hk⟩ => hk.out F' a' w' hR') (fun _ _ _ hf => hf) (h.out F a w hR))
theorem WPI_t' {d : Nat} {op : Op} {ty : TypeId} {pos : String} {af : Array Edge} {rest : List Oper} {p : SP} [hFe : CalmC Fe] (h : WT C (Hold fun _ => True) ⟨some d, op, ty, pos, af, none⟩ p env loc) (hd : Nat.blt d C.N = true) (hk : WPI C Fe n ops Q rest ((d, p) :: env) loc) (hdf : ∀ c, op ≠ .defer c := by intro c h; cases h) : WPI C Fe n ops Q (⟨some d, op, ty, pos, af, none⟩ :: rest) env loc := WPI_t hFe.out hdf h hd hk
theorem WPI_gt {d : Nat} {op : Op} {ty : TypeId} {pos : String} {af : Array Edge} {rest : List Oper} {p : SP} {j dj : Nat} {want : Bool} [hFe : CalmC Fe] (hj : (ops[j]?).bind (·.dst) = some dj) (hdj : Nat.blt dj C.N = true) (he : Fr.look dj env = some (exB want))
    (h : WT C (Hold fun _ => True) ⟨some d, op, ty, pos, af, some (j, want)⟩ p env loc) (hd : Nat.blt d C.N = true) (hk : WPI C Fe n ops Q rest ((d, p) :: env) loc) (hdf : ∀ c, op ≠ .defer c := by intro c h; cases h) : WPI C Fe n ops Q (⟨some d, op, ty, pos, af, some (j, want)⟩ :: rest) env loc :=
  WPI_on (H := fun _ => False) hdf rfl hj hdj he (WO_t h hd hk)
theorem WPI_op0 {o : Oper} {rest : List Oper} [hFe : CalmC Fe] (hg : o.guard = none) (h : WO C (feet []) o (fun env loc => WPI C Fe n ops Q rest env loc) env loc) (hdf : ∀ c, o.op ≠ .defer c := by intro c h; cases h) : WPI C Fe n ops Q (o :: rest) env loc := WPI_op hFe.out hdf hg h
theorem WPI_on0 {o : Oper} {rest : List Oper} {j d : Nat} {want : Bool} [hFe : CalmC Fe] (hg : o.guard = some (j, want)) (hj : (ops[j]?).bind (·.dst) = some d) (hd : Nat.blt d C.N = true) (he : Fr.look d env = some (exB want)) (h : WO C (feet []) o (fun env loc => WPI C Fe n ops Q rest env loc) env loc) (hdf : ∀ c, o.op ≠ .defer c := by intro c h; cases h) : WPI C Fe n ops Q (o :: rest) env loc := WPI_on hdf hg hj hd he h
theorem WPI_skipd {o : Oper} {rest : List Oper} {p : SP} {d' : Nat} [hFe : CalmC Fe] (hdst : o.dst = some d') (hw : ∀ F a w, Rel C F env loc a w → Region.wanted o (yielded ops a.tmps) = false) (hd' : Nat.blt d' C.N = true) (hp : p = ex undef) (h : WPI C Fe n ops Q rest ((d', p) :: env) loc) : WPI C Fe n ops Q (o :: rest) env loc := by
  constructor
  intro F a w hR
  unfold wpListIn
  rw [if_neg (by rw [hw F a w hR]; simp)]
  refine ⟨fun f _ => hFe.out.fn f, ?_⟩
  rw [hdst]
  subst hp
  exact h.out F _ w (hR.put hd' rfl)
theorem WPI_off {d' : Nat} {op : Op} {ty : TypeId} {pos : String} {af : Array Edge} {rest : List Oper} {j d : Nat} {b want : Bool} [hFe : CalmC Fe] (hj : (ops[j]?).bind (·.dst) = some d) (hd : Nat.blt d C.N = true) (he : Fr.look d env = some (exB b)) (hb : (b == want) = false)
    (hd' : Nat.blt d' C.N = true) (h : WPI C Fe n ops Q rest ((d', ex undef) :: env) loc) : WPI C Fe n ops Q (⟨some d', op, ty, pos, af, some (j, want)⟩ :: rest) env loc :=
  WPI_skipd rfl (fun F a w hR => by have hy := yielded_of hR hj (ne_of_blt hd) he; simp only [Region.wanted, hy]; simpa using hb) hd' rfl h
theorem WPI_offu {d' : Nat} {op : Op} {ty : TypeId} {pos : String} {af : Array Edge} {rest : List Oper} {j d : Nat} {want : Bool} [hFe : CalmC Fe] (hj : (ops[j]?).bind (·.dst) = some d) (hd : Nat.blt d C.N = true) (he : Fr.look d env = some (ex undef))
    (hd' : Nat.blt d' C.N = true) (h : WPI C Fe n ops Q rest ((d', ex undef) :: env) loc) : WPI C Fe n ops Q (⟨some d', op, ty, pos, af, some (j, want)⟩ :: rest) env loc :=
  WPI_skipd rfl (fun F a w hR => by have hy := yielded_undef hR hj (ne_of_blt hd) he; simp only [Region.wanted, hy]; simp) hd' rfl h
theorem WPI_off0 {op : Op} {ty : TypeId} {pos : String} {af : Array Edge} {rest : List Oper} {j d : Nat} {b want : Bool} [hFe : CalmC Fe] (hj : (ops[j]?).bind (·.dst) = some d) (hd : Nat.blt d C.N = true) (he : Fr.look d env = some (exB b)) (hb : (b == want) = false)
    (h : WPI C Fe n ops Q rest env loc) : WPI C Fe n ops Q (⟨none, op, ty, pos, af, some (j, want)⟩ :: rest) env loc := by
  constructor
  intro F a w hR
  have hy := yielded_of hR hj (ne_of_blt hd) he
  unfold wpListIn
  rw [if_neg (by simp only [Region.wanted, hy]; simpa using hb)]
  exact ⟨fun f _ => hFe.out.fn f, h.out F _ w hR⟩
theorem WPI_case {d' : Option Tmp} {op : Op} {ty : TypeId} {pos : String} {af : Array Edge} {rest : List Oper} {j d : Nat} {b want : Bool} (hj : (ops[j]?).bind (·.dst) = some d) (he : Fr.look d env = some (exB b))
    (h1 : b = true → WPI C Fe n ops Q (⟨d', op, ty, pos, af, some (j, want)⟩ :: rest) ((d, exB true) :: env) loc) (h0 : b = false → WPI C Fe n ops Q (⟨d', op, ty, pos, af, some (j, want)⟩ :: rest) ((d, exB false) :: env) loc) : WPI C Fe n ops Q (⟨d', op, ty, pos, af, some (j, want)⟩ :: rest) env loc := by
  have key : ∀ b', b = b' → ∀ F a w, Rel C F env loc a w → Rel C F ((d, exB b') :: env) loc a w := fun b' hb F a w hR => ⟨hR.good, fun t p hp => by
    rw [look_cons] at hp
    split at hp
    · rename_i e; cases hp; subst e hb; exact hR.env _ _ he
    · exact hR.env t p hp, hR.size, hR.defers, hR.ch, hR.own, hR.grow⟩
  constructor
  intro F a w hR
  cases hb : b with
  | true => exact (h1 hb).out F a w (key _ hb F a w hR)
  | false => exact (h0 hb).out F a w (key _ hb F a w hR)
end

/-! ### Rounds that may say no -/
def YieldS (P : Program) (l : Nat) (args : List SP) (A : List Ent → Prop) (B : Bool → List Ent → Prop) : Prop := ∀ m F w vals inn out, A inn → Good F (inn ++ out) w → CellsR F w args vals →
  YieldAt Fence.wide m P l vals.toArray w (fun e w' => ∃ r, e = .returned (.bool r) ∧ ∃ F' loc', B r loc' ∧ Good F' (loc' ++ out) w' ∧ Ch (footX inn) w w' ∧ (∀ b, F b → b < w.heap.size → F' b) ∧ ∀ e ∈ loc', ∀ b ∈ e.foot, w.heap.size ≤ b ∨ footX inn b)
theorem YieldS.mono {P : Program} {l : Nat} {args : List SP} {A : List Ent → Prop} {B B' : Bool → List Ent → Prop} (h : YieldS P l args A B) (hb : ∀ r loc, B r loc → B' r loc) : YieldS P l args A B' := fun m F w vals inn out hA hG hc => by
  obtain ⟨fn, tmps, assign, body, hy, hr⟩ := h m F w vals inn out hA hG hc
  exact ⟨fn, tmps, assign, body, hy, hr.mono fun e w' ⟨r, he, F', loc', hB, hx⟩ => ⟨r, he, F', loc', hb r loc' hB, hx⟩⟩
theorem YieldS.args {P : Program} {l : Nat} {ps qs : List SP} {A : List Ent → Prop} {B : Bool → List Ent → Prop} (h : YieldS P l qs A B) (hi : Ims ps qs) : YieldS P l ps A B := fun m F w vals inn out hA hG hc => h m F w vals inn out hA hG (hi.cells hc)
theorem WPI_yieldS {C : Cx} {n l d : Nat} {ops : Array Oper} {Q : Post} {ty : TypeId} {pos : String} {af : Array Edge} {rest : List Oper} {env : Env} {loc inn l2 : List Ent} {x : Operand} {xs : Array Operand} {ts : Array TypeId} {args : List SP} {A : List Ent → Prop} {B : Bool → List Ent → Prop} (hx : ev env x = some (ex (.func (.yield l) #[] #[]))) (hc : YieldS C.P l args A B) (ha : xs.toList.map (ev env) = args.map some) (ht : Takes loc inn l2) (hA : A inn) (hk : ∀ r loc', B r loc' → WPI C Fence.wide n ops Q rest ((d, exB r) :: env) (loc' ++ l2)) (hd : Nat.blt d C.N = true := by rfl) : WPI C Fence.wide n ops Q (⟨some d, .call ⟨.value x, xs, ts⟩, ty, pos, af, none⟩ :: rest) env loc := by
  constructor
  intro F a w hR
  unfold wpListIn
  rw [if_pos (by simp [Region.wanted])]
  refine ⟨fun _ _ => trivial, ?_⟩
  rw [Oper.semAt_plain Fence.wide _ _ (fun c h => by cases h)]
  have hG0 := ht.good hR.good
  obtain ⟨fn, tmps, assign, body, hy, hr⟩ := hc (n - 1) F w _ inn (l2 ++ C.out) hA hG0 (call_cells hR ha)
  have hv : a.eval x = .func (.yield l) #[] #[] := ev_eval hR hx
  have hrun : (execOp a.eval ⟨some d, .call ⟨.value x, xs, ts⟩, ty, pos, af, none⟩).run C.P w = .ok (.round l fn tmps assign body) w := by
    generalize a.eval = ρ at hv hy ⊢
    have e : (xs.toList.map ρ).toArray = xs.map ρ := by rw [← Array.toList_map]
    rw [e] at hy
    simp [execOp, resolve, invoke, go_sem, hv, hy]
  rw [hrun]
  refine ⟨by simp [Fence.wide], hr.mono ?_⟩
  rintro e w' ⟨r, rfl, F', loc', hB, hG, hch, hgr, hown⟩
  exact (hk r loc' hB).out F' _ w' (hR.calledG ht rfl hG hch hgr hown hd)
/-- The iterator g hands x1, x2, .. to yield, till one says no. -/
def GenS {α : Type} (P : Program) (g : FuncId) (lb : List SP) (encs : α → List SP) (xs : List α) : Prop := ∀ (l : Nat) (St Sp : List α → List Ent → Prop) (loc0 : List Ent), St [] loc0 →
  (∀ pre x, (pre ++ [x]) <+: xs → YieldS P l (encs x) (St pre) (fun r loc => (r = true ∧ St (pre ++ [x]) loc) ∨ (r = false ∧ Sp (pre ++ [x]) loc))) → FnC P g (ex (.func (.yield l) #[] #[]) :: lb) loc0 (fun _ loc' => St xs loc' ∨ ∃ pre, pre <+: xs ∧ Sp pre loc')

/-- **for .. := range g { .. }**, whose rounds may leave by return. -/
theorem WPR_rangeS {α : Type} {C : Cx} {id : Nat} {g : Operand} {ps : Array Tmp} {assign body : Code} {T : Exit → Act → World → Prop} {env : Env} {bl l2 : List Ent} {gf : FuncId} {fng : Func} {cg : Code} {lb : List SP} {encs : α → List SP} (xs : List α) (St Sp : List α → List Ent → Prop) (envA : α → Env → Env)
    (hg : ev env g = some (clo gf lb)) (hf : C.P.funcs[gf]? = some fng) (hbd : fng.body = some cg) (hname : (fng.name == "runtime.NumGoroutine") = false) (hgen : GenS C.P gf lb encs xs) (hps : ∀ x, (encs x).length = ps.size) (hN : ∀ t ∈ ps.toList, Nat.blt t C.N = true) (hS0 : St [] bl)
    (hround : ∀ (Cb : Cx) l m pre x inn, Cb.P = C.P → Cb.N = C.N → (pre ++ [x]) <+: xs → St pre inn → WPC Cb (Fence.wide.inRound l) m assign (fun e env1 loc1 => e = .normal ∧ env1 = envA x (putE env ps.toList (encs x)) ∧ loc1 = inn) (putE env ps.toList (encs x)) inn)
    (hbody : ∀ (Cb : Cx) l m pre x inn, Cb.P = C.P → Cb.N = C.N → (pre ++ [x]) <+: xs → St pre inn → WPC Cb (Fence.wide.inRound l) m body (fun e _ loc' => (e = .normal ∧ St (pre ++ [x]) loc') ∨ (e = .ret ∧ Sp (pre ++ [x]) loc')) (envA x (putE env ps.toList (encs x))) inn)
    (hrest : ∀ D bl', C.w0.heap.size ≤ D → St xs bl' → rawP (C.mark D) T .normal env (bl' ++ l2))
    (hstop : ∀ D pre bl', C.w0.heap.size ≤ D → pre <+: xs → Sp pre bl' → rawP (C.mark D) T .ret env (bl' ++ l2)) : WPR C (.block id (.rangeFunc g ps assign body)) T env (bl ++ l2) := by
  constructor
  intro F a w hR
  refine wp_block ((wpIn_wide (n := 5)).1 (wpIn_rangeFunc fun fn _ => ?_))
  obtain ⟨rec, hrec⟩ : ∃ rec : LoopState → Loop, rec = fun st => { state := st, pending := none, fn, tmps := a.tmps, params := ps, assign, body, defers := w.heap.size } := ⟨_, rfl⟩
  obtain ⟨recD, hrecD⟩ : ∃ recD : Loop, recD = { rec .ready with state := .done, pending := some .ret } := ⟨_, rfl⟩
  obtain ⟨vs, hgv, hlb⟩ : ∃ vs : List Value, a.eval g = .func (.func gf) #[] vs.toArray ∧ CellsR F w lb vs := ev_eval hR hg
  have eg : ∀ args w, (callFunc gf args).run C.P w = .ok (.enter gf args) w := fun args w => by
    have h9 : ¬ fng.name = "runtime.NumGoroutine" := by simpa using hname
    simp [callFunc, hf, hbd, h9, go_sem]
  obtain ⟨Wm, hWm⟩ : ∃ Wm, w.alloc (.deferred (some [])) = Wm := ⟨_, rfl⟩
  obtain ⟨W1, hW1⟩ : ∃ W1, Wm.alloc (.loop (rec .ready)) = W1 := ⟨_, rfl⟩
  have sm : Wm.heap.size = w.heap.size + 1 := by rw [← hWm]; simp
  have s1 : W1.heap.size = w.heap.size + 1 + 1 := by rw [← hW1]; simp [sm]
  -- what is readable as the loop begins: no more than lies there
  have hG0 : Good (fun k => F k ∧ k < w.heap.size) ((bl ++ l2) ++ C.out) w := hR.good.weak
  have hG1 : Good (fun k => F k ∧ k < w.heap.size) (markE w.heap.size :: ((bl ++ l2) ++ C.out)) Wm := by
    rw [← hWm]; exact hG0.lay (fun _ h => h.2) rfl (by show (w.alloc _).heap[w.heap.size]? = _; exact World.alloc_heap_new w _)
  have hk1 : ∀ b, b < w.heap.size → W1.heap[b]? = w.heap[b]? := fun b hb => by
    rw [← hW1, Below.heap_alloc _ _ _ (by omega), ← hWm, Below.heap_alloc _ _ _ hb]
  have hG2 : Good (fun k => F k ∧ k < w.heap.size) (loopE (w.heap.size + 1) (rec .ready) (fun k => F k ∧ k < w.heap.size) w :: markE w.heap.size :: ((bl ++ l2) ++ C.out)) W1 := by
    have h := hG1.lay (e := loopE (w.heap.size + 1) (rec .ready) (fun k => F k ∧ k < w.heap.size) w) (o := .loop (rec .ready)) (fun _ h => by omega) (by rw [sm]; rfl) ⟨by rw [← sm]; exact World.alloc_heap_new Wm _, fun b hb hl => ⟨hb, by rw [hW1]; exact hk1 b hl⟩⟩
    rw [hW1] at h; exact h
  have hcall := hgen (w.heap.size + 1) (fun pre inn => ∃ b0, inn = loopE (w.heap.size + 1) (rec .ready) (fun k => F k ∧ k < w.heap.size) w :: b0 ∧ St pre b0) (fun pre inn => ∃ b0, inn = loopE (w.heap.size + 1) recD (fun k => F k ∧ k < w.heap.size) w :: b0 ∧ Sp pre b0) (loopE (w.heap.size + 1) (rec .ready) (fun k => F k ∧ k < w.heap.size) w :: bl) ⟨bl, rfl, hS0⟩ ?_
    (fun k => F k ∧ k < w.heap.size) W1 (.func (.yield (w.heap.size + 1)) #[] #[] :: vs) (markE w.heap.size :: (l2 ++ C.out)) (hG2.perm ?_) (.cons rfl (hlb.mono fun b hb hl => ⟨⟨hb, hl⟩, hk1 b hl⟩))
  · refine ⟨w.heap.size + 1, [{ target := .collected w.heap.size, args := #[] }], W1, { target := .fn (.func gf) vs.toArray, args := #[.func (.yield (w.heap.size + 1)) #[] #[]] }, W1, gf, #[.func (.yield (w.heap.size + 1)) #[] #[]] ++ vs.toArray, W1, ?_, ?_, fun _ _ => trivial, ?_, by simp [Fence.wide], ?_⟩
    · rw [← hW1, ← hWm, hrec]; exact run_enterLoop_outer _ _ _ _ _
    · simp only [resolve, hgv]
      simp [go_sem]
    · simp [invoke, go_sem, eg]
    · have e1 : (#[.func (.yield (w.heap.size + 1)) #[] #[]] ++ vs.toArray : Array Value) = (.func (.yield (w.heap.size + 1)) #[] #[] :: vs).toArray := by simp
      rw [e1]
      refine callsIn_wide.2 (hcall.mono ?_)
      rintro e w3 ⟨v, F3, p, loc3, rfl, hSS, _, hG3, hch, hgr, hown⟩
      obtain ⟨recE, bl', jump, rfl, hjump, hS⟩ : ∃ recE bl' jump, loc3 = loopE (w.heap.size + 1) recE (fun k => F k ∧ k < w.heap.size) w :: bl' ∧ (recE.state ≠ .busy ∧ recE.pending = jump) ∧ ((jump = none ∧ St xs bl') ∨ (jump = some .ret ∧ ∃ pre, pre <+: xs ∧ Sp pre bl')) := by
        rcases hSS with ⟨bl', rfl, hS⟩ | ⟨pre, hpre, bl', rfl, hS⟩
        · exact ⟨rec .ready, bl', none, rfl, ⟨by rw [hrec]; simp, by rw [hrec]⟩, .inl ⟨rfl, hS⟩⟩
        · exact ⟨recD, bl', some .ret, rfl, ⟨by rw [hrecD]; simp, by rw [hrecD]⟩, .inr ⟨rfl, pre, hpre, hS⟩⟩
      have hl3 := (hG3.rel _ (List.mem_cons_self)).1
      obtain ⟨o4, hrun⟩ : ∃ o4, (Instr.endLoop (w.heap.size + 1)).run C.P w3 = .ok jump (w3.putObj (w.heap.size + 1) o4) := ⟨_, by have := run_endLoop (P := C.P) hl3 hjump.1; rw [hjump.2] at this; exact this⟩
      refine ⟨jump, _, hrun, ?_⟩
      -- behind the loop
      have hlt3 := hG3.lt _ List.mem_cons_self (w.heap.size + 1) (by simp [loopE])
      have hpw := List.pairwise_cons.1 hG3.disj
      have hoth : ∀ b, b ≠ w.heap.size + 1 → (w3.putObj (w.heap.size + 1) o4).heap[b]? = w3.heap[b]? := fun b hb => World.putObj_heap_other hb
      have hkeep : ∀ b, F3 b → b < w3.heap.size → F3 b ∧ (w3.putObj (w.heap.size + 1) o4).heap[b]? = w3.heap[b]? := fun b hb _ => ⟨hb, hoth b fun e' => hlt3.2 (e' ▸ hb)⟩
      have hG4 : Good F3 (bl' ++ (markE w.heap.size :: (l2 ++ C.out))) (w3.putObj (w.heap.size + 1) o4) := by
        refine ⟨fun x hx => x.mono (hG3.rel x (List.mem_cons_of_mem _ hx)) hkeep fun b hb => hoth b fun e' => hpw.1 x hx _ (by simp [loopE]) (e' ▸ hb), fun x hx b hb => ?_, hpw.2⟩
        rw [World.putObj_size]; exact hG3.lt x (List.mem_cons_of_mem _ hx) b hb
      have hDw : C.w0.heap.size ≤ w.heap.size := hR.ch.size
      have hRel : Rel (C.mark w.heap.size) F3 env (bl' ++ l2) { a with defers := [{ target := .collected w.heap.size, args := #[] }] ++ a.defers } (w3.putObj (w.heap.size + 1) o4) := ?rel
      · rcases hS with ⟨rfl, hS⟩ | ⟨rfl, pre, hpre, hS⟩
        · exact hrest w.heap.size bl' hDw hS F3 _ _ hRel
        · exact wpIn_ret (hstop w.heap.size pre bl' hDw hpre hS F3 _ _ hRel)
      refine ⟨?_, fun t p hp => p.mono (hR.env t p hp) fun b hb hl => ?_, hR.size, by show _ ++ a.defers = _; rw [hR.defers]; rfl, ?_, fun e he b hb => ?_, fun b hb hl => ?_⟩
      · refine hG4.perm ?_
        show (bl' ++ (markE w.heap.size :: (l2 ++ C.out))).Perm ((bl' ++ l2) ++ (markE w.heap.size :: C.out))
        rw [List.append_assoc]
        exact List.Perm.append_left _ (List.perm_middle.symm)
      · have h1 := hgr b ⟨hb, hl⟩ (by omega)
        refine ⟨h1, (hkeep b h1 ?_).2.trans ((hch.block b (by omega) ?_).trans (hk1 b hl))⟩
        · have := hch.size; omega
        · rintro ⟨e, he, hbe⟩
          rcases List.mem_cons.1 he with rfl | he
          · simp [loopE] at hbe; omega
          · exact (hR.good.lt e (List.mem_append_left _ (List.mem_append_left _ he)) b hbe).2 hb
      · have c1 : Ch C.X w W1 := ⟨by rw [← hW1, ← hWm]; rfl, by rw [← hW1, ← hWm]; rfl, by rw [← hW1, ← hWm]; rfl, by omega, fun k hk _ => hk1 k hk⟩
        refine ((hR.ch.trans c1 (fun _ _ h => h) fun _ _ h => h).trans hch (fun _ _ h => h) ?_).trans (Ch.put (X := fun b => b = w.heap.size + 1) rfl) (fun _ _ h => h) fun b hb e' => ?_
        · rintro b hb ⟨e, he, hbe⟩
          rcases List.mem_cons.1 he with rfl | he
          · simp [loopE] at hbe
            have hb' : b < C.w0.heap.size := hb
            omega
          · exact (hR.own e (List.mem_append_left _ he) b hbe).elim (fun h => absurd hb (by show ¬ b < C.w0.heap.size; omega)) (fun h => h)
        · have hb' : b < C.w0.heap.size := hb
          omega
      · rcases List.mem_append.1 he with he | he
        · rcases hown e (List.mem_cons_of_mem _ he) b hb with h | ⟨e', he', hbe⟩
          · exact .inl (by show C.w0.heap.size ≤ b; omega)
          · rcases List.mem_cons.1 he' with rfl | he'
            · simp [loopE] at hbe
              exact .inl (by show C.w0.heap.size ≤ b; omega)
            · exact hR.own e' (List.mem_append_left _ he') b hbe
        · exact hR.own e (List.mem_append_right _ he) b hb
      · have hl' : b < C.w0.heap.size := hl
        exact hgr b ⟨hR.grow b hb hl, by omega⟩ (by omega)
  · -- one round
    rintro pre x hpre m F1 W vals inn out1 ⟨b0, rfl, hS⟩ hG hcv
    obtain ⟨hl, hbase⟩ := hG.rel _ List.mem_cons_self
    have hlen : vals.length = ps.size := hcv.len.trans (hps x)
    have hy := run_yield (P := C.P) (args := vals.toArray) hl (by rw [hrec]; simpa using hlen)
    rw [show (rec .ready).fn = fn by rw [hrec], show (rec .ready).params = ps by rw [hrec], show (rec .ready).tmps = a.tmps by rw [hrec], show (rec .ready).assign = assign by rw [hrec], show (rec .ready).body = body by rw [hrec]] at hy
    refine ⟨fn, _, assign, body, hy, roundIn_of_wpIn trivial ?_⟩
    clear hy
    have hmid : ∀ {G : Nat → Prop} {e : Ent} {L : List Ent} {V : World}, Good G (e :: (L ++ out1)) V → Good G (L ++ (e :: out1)) V := fun h => h.perm List.perm_middle.symm
    have hmid2 : ∀ {G : Nat → Prop} {e : Ent} {L : List Ent} {V : World}, Good G (L ++ (e :: out1)) V → Good G (e :: (L ++ out1)) V := fun h => h.perm List.perm_middle
    have hR0 : Rel ⟨C.P, W, F1, footX b0, loopE (w.heap.size + 1) (rec .ready) (fun k => F k ∧ k < w.heap.size) w :: out1, C.N, []⟩ F1 env b0 { tmps := a.tmps, defers := [] } W := by
      refine ⟨hmid hG, fun t p hp => p.mono (hR.env t p hp) fun b hb hlt => hbase b ⟨hb, hlt⟩ hlt, hR.size, rfl, Ch.refl _ _, fun e he b hb => .inr ⟨e, he, hb⟩, fun b hb _ => hb⟩
    have hRx := Rel.puts (ts := ps.toList) hR0 hcv (by rw [hps x]; simp) hN
    have htm : (ps.zip vals.toArray).foldl (fun t (p, v) => t.setIfInBounds p v) a.tmps = (ps.toList.zip vals).foldl (fun t (p, v) => t.setIfInBounds p v) a.tmps := by
      rw [← Array.foldl_toList]; simp
    rw [htm]
    have hx1 := (hround ⟨C.P, W, F1, footX b0, loopE (w.heap.size + 1) (rec .ready) (fun k => F k ∧ k < w.heap.size) w :: out1, C.N, []⟩ (w.heap.size + 1) m pre x b0 rfl rfl hpre hS).out F1 _ W hRx
    refine wpIn_mono hx1 ?_
    rintro e a1 w1 ⟨F2, env1, loc1, hR1, rfl, rfl, rfl⟩
    have hG1' := hmid2 hR1.good
    have hl1 := (hG1'.rel _ List.mem_cons_self).1
    refine ⟨_, run_beginRound hl1 (by rw [hrec]), ?_⟩
    obtain ⟨o2, ho2⟩ : ∃ o, o = Obj.loop { rec .ready with state := .busy } := ⟨_, rfl⟩
    rw [← ho2]
    have hlt1 := hG1'.lt _ List.mem_cons_self (w.heap.size + 1) (by simp [loopE])
    have hoth1 : ∀ b, b ≠ w.heap.size + 1 → (w1.putObj (w.heap.size + 1) o2).heap[b]? = w1.heap[b]? := fun b hb => World.putObj_heap_other hb
    have hkeep1 : ∀ b, F2 b → b < w1.heap.size → F2 b ∧ (w1.putObj (w.heap.size + 1) o2).heap[b]? = w1.heap[b]? := fun b hb _ => ⟨hb, hoth1 b fun e' => hlt1.2 (e' ▸ hb)⟩
    have hbase1 := (hG1'.rel _ List.mem_cons_self).2
    have hG2' : Good F2 (loopE (w.heap.size + 1) { rec .ready with state := .busy } (fun k => F k ∧ k < w.heap.size) w :: (loc1 ++ out1)) (w1.putObj (w.heap.size + 1) o2) :=
      hG1'.put rfl rfl fun ho hn => ⟨by rw [hn, ho2], fun b hb hlt => ⟨(hbase1 b hb hlt).1, by rw [ho b (by omega)]; exact (hbase1 b hb hlt).2⟩⟩
    have hR2 : Rel ⟨C.P, w1.putObj (w.heap.size + 1) o2, F2, footX loc1, loopE (w.heap.size + 1) { rec .ready with state := .busy } (fun k => F k ∧ k < w.heap.size) w :: out1, C.N, []⟩ F2 (envA x (putE env ps.toList (encs x))) loc1 a1 (w1.putObj (w.heap.size + 1) o2) :=
      ⟨hmid hG2', fun t p hp => p.mono (hR1.env t p hp) hkeep1, hR1.size, hR1.defers, Ch.refl _ _, fun e he b hb => .inr ⟨e, he, hb⟩, fun b hb _ => hb⟩
    have hx2 := (hbody ⟨C.P, w1.putObj (w.heap.size + 1) o2, F2, footX loc1, loopE (w.heap.size + 1) { rec .ready with state := .busy } (fun k => F k ∧ k < w.heap.size) w :: out1, C.N, []⟩ (w.heap.size + 1) m pre x loc1 rfl rfl hpre hS).out F2 a1 _ hR2
    refine wpIn_mono hx2 ?_
    rintro e a3 w3 ⟨F3, env3, loc3, hR3, hS3⟩
    obtain ⟨jump, rec3, hrec3, hjp⟩ : ∃ (jump : Option Code) (rec3 : Loop), rec3 = { { rec .ready with state := .busy } with state := if jump.isNone then .ready else .done, pending := jump } ∧ ((e = .normal ∧ jump = none ∧ St (pre ++ [x]) loc3 ∧ rec3 = rec .ready) ∨ (e = .ret ∧ jump = some .ret ∧ Sp (pre ++ [x]) loc3 ∧ rec3 = recD)) := by
      rcases hS3 with ⟨rfl, h⟩ | ⟨rfl, h⟩
      · exact ⟨none, _, rfl, .inl ⟨rfl, rfl, h, by rw [hrec]; rfl⟩⟩
      · exact ⟨some .ret, _, rfl, .inr ⟨rfl, rfl, h, by rw [hrecD, hrec]; rfl⟩⟩
    have hG3' := hmid2 hR3.good
    have hl3 := (hG3'.rel _ List.mem_cons_self).1
    have hbase3 := (hG3'.rel _ List.mem_cons_self).2
    have hend := run_endRound (P := C.P) jump hl3
    obtain ⟨o3, ho3⟩ : ∃ o, o = Obj.loop rec3 := ⟨_, rfl⟩
    have ho3' : Obj.loop { { rec .ready with state := .busy } with state := if jump.isNone then .ready else .done, pending := jump } = o3 := by rw [ho3, hrec3]
    rw [ho3'] at hend
    have key : ∃ F' loc', ((jump = none ∧ ∃ b0, loc' = loopE (w.heap.size + 1) (rec .ready) (fun k => F k ∧ k < w.heap.size) w :: b0 ∧ St (pre ++ [x]) b0) ∨ (jump = some .ret ∧ ∃ b0, loc' = loopE (w.heap.size + 1) recD (fun k => F k ∧ k < w.heap.size) w :: b0 ∧ Sp (pre ++ [x]) b0)) ∧ Good F' (loc' ++ out1) (w3.putObj (w.heap.size + 1) o3) ∧ Ch (footX (loopE (w.heap.size + 1) (rec .ready) (fun k => F k ∧ k < w.heap.size) w :: loc1)) W (w3.putObj (w.heap.size + 1) o3) ∧ (∀ b, F1 b → b < W.heap.size → F' b) ∧ ∀ e ∈ loc', ∀ b ∈ e.foot, W.heap.size ≤ b ∨ footX (loopE (w.heap.size + 1) (rec .ready) (fun k => F k ∧ k < w.heap.size) w :: loc1) b := ?key
    · obtain ⟨F', loc', hJ, h1, h2, h3, h4⟩ := key
      rcases hjp with ⟨rfl, rfl, hs, hr3⟩ | ⟨rfl, rfl, hs, hr3⟩
      · refine ⟨_, _, hend, true, rfl, F', loc', .inl ⟨rfl, ?_⟩, h1, h2, h3, h4⟩
        rcases hJ with ⟨_, h⟩ | ⟨h, _⟩
        · exact h
        · cases h
      · refine ⟨_, _, hend, false, rfl, F', loc', .inr ⟨rfl, ?_⟩, h1, h2, h3, h4⟩
        rcases hJ with ⟨h, _⟩ | ⟨_, h⟩
        · cases h
        · exact h
    refine ⟨F3, loopE (w.heap.size + 1) rec3 (fun k => F k ∧ k < w.heap.size) w :: loc3, ?_, ?_, ?_, ?_, ?_⟩
    · rcases hjp with ⟨_, h, hs, hr3⟩ | ⟨_, h, hs, hr3⟩
      · exact .inl ⟨h, loc3, by rw [hr3], hs⟩
      · exact .inr ⟨h, loc3, by rw [hr3], hs⟩
    · exact hG3'.put rfl rfl fun ho hn => ⟨by rw [hn, ho3], fun b hb hlt => ⟨(hbase3 b hb hlt).1, by rw [ho b (by omega)]; exact (hbase3 b hb hlt).2⟩⟩
    · have hmem : footX (loopE (w.heap.size + 1) (rec .ready) (fun k => F k ∧ k < w.heap.size) w :: loc1) (w.heap.size + 1) := ⟨_, List.mem_cons_self, by simp [loopE]⟩
      have hup : ∀ n, footX loc1 n → footX (loopE (w.heap.size + 1) (rec .ready) (fun k => F k ∧ k < w.heap.size) w :: loc1) n := fun n ⟨e, he, hb⟩ => ⟨e, List.mem_cons_of_mem _ he, hb⟩
      have c1 : Ch (footX loc1) W w1 := hR1.ch
      have c3 : Ch (footX loc1) (w1.putObj (w.heap.size + 1) o2) w3 := hR3.ch
      exact ((c1.trans (Ch.put (X := footX (loopE (w.heap.size + 1) (rec .ready) (fun k => F k ∧ k < w.heap.size) w :: loc1)) (o := o2) hmem) (fun n _ h => hup n h) fun n _ h => h).trans c3 (fun n _ h => h) fun n _ h => hup n h).trans (Ch.put (X := footX (loopE (w.heap.size + 1) (rec .ready) (fun k => F k ∧ k < w.heap.size) w :: loc1)) hmem) (fun n _ h => h) fun n _ h => h
    · intro b hb hlt
      have c1 : Ch (footX loc1) W w1 := hR1.ch
      exact hR3.grow b (hR1.grow b hb hlt) (by show b < (w1.putObj _ o2).heap.size; rw [World.putObj_size]; have := c1.size; omega)
    · intro e he b hb
      rcases List.mem_cons.1 he with rfl | he
      · exact .inr ⟨_, List.mem_cons_self, hb⟩
      · rcases hR3.own e he b hb with h | ⟨e', he', hb'⟩
        · have c1 : Ch (footX loc1) W w1 := hR1.ch
          have h' : (w1.putObj (w.heap.size + 1) o2).heap.size ≤ b := h
          rw [World.putObj_size] at h'
          exact .inl (Nat.le_trans c1.size h')
        · exact .inr ⟨e', List.mem_cons_of_mem _ he', hb'⟩
  · show (loopE (w.heap.size + 1) (rec .ready) (fun k => F k ∧ k < w.heap.size) w :: markE w.heap.size :: ((bl ++ l2) ++ C.out)).Perm ((loopE (w.heap.size + 1) (rec .ready) (fun k => F k ∧ k < w.heap.size) w :: bl) ++ (markE w.heap.size :: (l2 ++ C.out)))
    rw [List.append_assoc]
    exact List.Perm.cons _ List.perm_middle.symm


end Go.Fr

/- Frame: the walk of code in a round's frame (rules whose premises come in the order that the walker wants); lists of owned things that nobody opens. No program in sight. -/
namespace Go.Fr
open Go.RowKit Go.Kx
def isDefer : Op → Bool
  | .defer _ => true
  | _ => false
theorem not_defer {op : Op} (h : isDefer op = false) : ∀ c, op ≠ .defer c := by rintro c rfl; cases h
section
variable {C : Cx} {Fe : Fence} {n : Nat} {ops : Array Oper} {Q : Post} {env : Env} {loc : List Ent}
theorem WPI_u {d : Nat} {op : Op} {ty : TypeId} {pos : String} {af : Array Edge} {rest : List Oper} {p : SP} [hFe : CalmC Fe] (hdf : isDefer op = false) (h : WT C (Hold fun _ => True) ⟨some d, op, ty, pos, af, none⟩ p env loc) (hd : Nat.blt d C.N = true) (hk : WPI C Fe n ops Q rest ((d, p) :: env) loc) : WPI C Fe n ops Q (⟨some d, op, ty, pos, af, none⟩ :: rest) env loc := WPI_t hFe.out (not_defer hdf) h hd hk
theorem WPI_gu {d : Nat} {op : Op} {ty : TypeId} {pos : String} {af : Array Edge} {rest : List Oper} {p : SP} {j dj : Nat} {want : Bool} [hFe : CalmC Fe] (hdf : isDefer op = false) (hj : (ops[j]?).bind (·.dst) = some dj) (hdj : Nat.blt dj C.N = true) (he : Fr.look dj env = some (exB want))
    (h : WT C (Hold fun _ => True) ⟨some d, op, ty, pos, af, some (j, want)⟩ p env loc) (hd : Nat.blt d C.N = true) (hk : WPI C Fe n ops Q rest ((d, p) :: env) loc) : WPI C Fe n ops Q (⟨some d, op, ty, pos, af, some (j, want)⟩ :: rest) env loc := WPI_gt hj hdj he h hd hk (not_defer hdf)
theorem WPI_opu {o : Oper} {rest : List Oper} [hFe : CalmC Fe] (hdf : isDefer o.op = false) (hg : o.guard = none) (h : WO C (feet []) o (fun env loc => WPI C Fe n ops Q rest env loc) env loc) : WPI C Fe n ops Q (o :: rest) env loc := WPI_op0 hg h (not_defer hdf)
theorem WPI_onu {o : Oper} {rest : List Oper} {j d : Nat} {want : Bool} [hFe : CalmC Fe] (hdf : isDefer o.op = false) (hg : o.guard = some (j, want)) (hj : (ops[j]?).bind (·.dst) = some d) (hd : Nat.blt d C.N = true) (he : Fr.look d env = some (exB want)) (h : WO C (feet []) o (fun env loc => WPI C Fe n ops Q rest env loc) env loc) : WPI C Fe n ops Q (o :: rest) env loc := WPI_on0 hg hj hd he h (not_defer hdf)
end
theorem raw_past {C : Cx} {K : Act → World → Prop} {T : Exit → Act → World → Prop} {env : Env} {loc : List Ent} (h : rawP C T .ret env loc) : rawP C (Exit.then K T) .ret env loc := fun F a w hR => h F a w hR
def loose (C : Cx) (Q : Post) : Post := fun e env loc => ∃ env' loc', Leads C env loc env' loc' ∧ Q e env' loc'
theorem WPC_loose {C : Cx} {Fe : Fence} {n : Nat} {c : Code} {Q : Post} {env : Env} {loc : List Ent} (h : WPC C Fe n c (loose C Q) env loc) : WPC C Fe n c Q env loc := by
  refine ⟨fun F a w hR => wpIn_mono (h.out F a w hR) ?_⟩
  rintro e a' w' ⟨F', env', loc', hR', env2, loc2, hl, hq⟩
  obtain ⟨F2, hR2⟩ := hl F' a' w' hR'
  exact ⟨F2, env2, loc2, hR2, hq⟩
theorem Takes.suffix : ∀ (inn : List Ent) {pre : List Ent}, Takes (pre ++ inn) inn pre
  | [], pre => by rw [List.append_nil]; exact .nil
  | e :: inn, pre => by
    refine .one pre.length (by simp) ?_
    have : (pre ++ e :: inn).eraseIdx pre.length = pre ++ inn := by
      rw [List.eraseIdx_append_of_length_le (by omega)]; simp
    rw [this]
    exact Takes.suffix inn
theorem Takes.prefix_ (inn : List Ent) {suf : List Ent} : Takes (inn ++ suf) inn suf := by
  induction inn with
  | nil => exact .nil
  | cons e l ih => exact .one 0 rfl ih
theorem Im_exagg {vs : List Value} : Im (ex (.agg vs.toArray)) (agg (vs.map ex)) := fun _ _ _ h => ⟨vs, h, ⟨by simp, fun i p hp => by
    rw [List.getElem?_map] at hp
    obtain ⟨u, h1, rfl⟩ := Option.map_eq_some_iff.1 hp
    exact ⟨u, h1, rfl⟩⟩⟩
theorem Leads_up {C : Cx} {env : Env} {loc : List Ent} {t : Nat} {p q : SP} (ht : look t env = some p) (hi : Im p q) : Leads C env loc ((t, q) :: env) loc := fun F a w hR => ⟨F, hR.good, fun t' p' hp => by
    rw [look_cons] at hp
    split at hp
    · rename_i e; cases hp; subst e; exact hi _ _ _ (hR.env _ _ ht)
    · exact hR.env t' p' hp, hR.size, hR.defers, hR.ch, hR.own, hR.grow⟩
theorem Leads_fp {C : Cx} {env : Env} {loc : List Ent} {k b T tot t : Nat} {ps : List SP} (he : loc[k]? = some (row b T tot ps)) (ht : look t env = some (ex (.pointer (some ⟨b, 0, none⟩)))) : Leads C env loc ((t, fp ps) :: (t, fpx b ps) :: env) (loc.eraseIdx k) := (Leads_fpx he ht).trans (Leads_up (by rw [look_cons, if_pos rfl]) Im_fpx_fp)
theorem exL_le {k j : Nat} (h : k ≤ j) (l : List Ex) : Im (exL k l) (exL j l) := by
  induction h with
  | refl => exact Im.refl _
  | step _ ih => exact fun F w v hv => exL_mono _ l F w v (ih F w v hv)
theorem exV_le {k j : Nat} (h : k ≤ j) (x : Ex) : Ims (exV k x) (exV j x) := .cons (Im.refl _) (.cons (Im.refl _) (.cons (Im.refl _) (.cons (Im.refl _) (.cons (exL_le h _) .nil))))
end Go.Fr

/- Frame: a map's entry is deleted, by a deferred call; a map read without comma ok. No program in sight. -/
namespace Go.Fr
open Go.RowKit Go.Kx
section
variable {C : Cx} {H : Nat → Prop} {env : Env} {loc : List Ent} {dst : Option Tmp} {ty : TypeId} {pos : String} {af : Array Edge} {g : Option (Nat × Bool)}
theorem WT_lookv {κ : Type} [DecidableEq κ] [MK κ] {m : List (κ × SP)} {k : κ} {p : SP} {j b : Nat} {t kt et : TypeId} {dk : TypeDesc} {x y : Operand} (hx : ev env x = some (ex (.map (some b)))) (he : loc[j]? = some (omap b m)) (hy : ev env y = some (ex (MK.val k))) (hl : mlook m k = some p) (ht : C.P.underlying t = some (.map kt et)) (hk : C.P.underlying kt = some dk) (hok : MK.ok κ dk) (hH : H b) : WT C (Hold H) ⟨dst, .lookup t x y false, ty, pos, af, g⟩ p env loc := by
  constructor
  intro F a w hR
  have hv : a.eval x = .map (some b) := ev_eval hR hx
  have hvy : a.eval y = MK.val k := ev_eval hR hy
  have hmem : omap b m ∈ loc ++ C.out := List.mem_append_left _ (List.mem_of_getElem? he)
  have hb := (hR.good.lt _ hmem b (by simp [omap])).1
  obtain ⟨es, clock, h4, h5, h6⟩ := hR.good.rel _ hmem
  obtain ⟨i, v, h7, h8, _⟩ := findNow_some hok m es.toList 0 (by simpa using h5) (fun i k p hp => by simpa using h6 i k p hp) hl
  refine ⟨v, h8, fun w' hs => ?_⟩
  have hf := run_findKey (P := C.P) hk h7
  have hbw := hs b hb (.inr hH)
  generalize a.eval = ρ at hv hvy ⊢
  simp [execOp, hv, hvy, Instr.lookup, run_und ht, go_sem, Go.MapKept.run_getObj_map (hbw.trans h4), MK.check hk hok, hf]
theorem WT_lookv0 {κ : Type} [DecidableEq κ] [MK κ] {m : List (κ × SP)} {k : κ} {j b : Nat} {t kt et : TypeId} {dk : TypeDesc} {x y : Operand} {sz bt : Nat} {z : Value} (hx : ev env x = some (ex (.map (some b)))) (he : loc[j]? = some (omap b m)) (hy : ev env y = some (ex (MK.val k))) (hl : mlook m k = none) (ht : C.P.underlying t = some (.map kt et)) (hk : C.P.underlying kt = some dk) (hok : MK.ok κ dk) (hH : H b) [hT : TI C.P et sz bt z] : WT C (Hold H) ⟨dst, .lookup t x y false, ty, pos, af, g⟩ (ex z) env loc := by
  constructor
  intro F a w hR
  have hv : a.eval x = .map (some b) := ev_eval hR hx
  have hvy : a.eval y = MK.val k := ev_eval hR hy
  have hmem : omap b m ∈ loc ++ C.out := List.mem_append_left _ (List.mem_of_getElem? he)
  have hb := (hR.good.lt _ hmem b (by simp [omap])).1
  refine ⟨z, rfl, fun w' hs => ?_⟩
  have hr := lookup_miss (w' := w') (hT := hT) ht hk hok (hR.good.rel _ hmem) (hs b hb (.inr hH)) hl false
  generalize a.eval = ρ at hv hvy ⊢
  simp [execOp, hv, hvy, hr, go_sem]
end
theorem run_delete {κ : Type} [DecidableEq κ] [MK κ] {P : Program} {t kt et ty : TypeId} {ts : Array TypeId} {dk : TypeDesc} {b : Nat} {m1 : List (κ × SP)} {x : κ} {q : SP} {F : Nat → Prop} {w : World} (hts : ts[0]? = some t) (ht : P.underlying t = some (.map kt et)) (hk : P.underlying kt = some dk) (hok : MK.ok κ dk) (hm : mapR F w b (m1 ++ [(x, q)])) (hn : mlook m1 x = none) :
    ∃ es clock, (Builtin.delete_ ts ty #[.map (some b), MK.val x]).run P w = .ok (.tuple #[]) { w with heap := w.heap.setIfInBounds b (.map es clock) } ∧ es.size = m1.length ∧ ∀ (i : Nat) (k : κ) (p : SP), m1[i]? = some (k, p) → ∃ e, es[i]? = some e ∧ e.key = MK.val k ∧ p.rel F w e.val := by
  obtain ⟨es, clock, h1, h2, h3⟩ := hm
  have hnone : ∀ (l : List (κ × SP)), mlook l x = none → ∀ (i : Nat) (p : SP), l[i]? ≠ some (x, p) := by
    intro l
    induction l with
    | nil => intro _ i p h; simp at h
    | cons a l ih =>
      obtain ⟨k, p0⟩ := a
      intro hl i p h
      unfold mlook at hl
      split at hl
      · cases hl
      · rename_i hne
        cases i with
        | zero => simp at h; exact hne h.1.symm
        | succ i => exact ih hl i p (by simpa using h)
  have hsome : mlook (m1 ++ [(x, q)]) x = some q := by
    clear h1 h2 h3
    induction m1 with
    | nil => simp [mlook]
    | cons a l ih =>
      obtain ⟨k, p0⟩ := a
      unfold mlook at hn
      split at hn
      · cases hn
      · rename_i hne
        show (if x = k then some p0 else mlook (l ++ [(x, q)]) x) = some q
        rw [if_neg hne]; exact ih hn
  obtain ⟨i, v, h4, h5, h6, _⟩ := findNow_some hok (m1 ++ [(x, q)]) es.toList 0 (by simpa using h2) (fun i k p hp => by simpa using h3 i k p hp) hsome
  have hi : i = m1.length := by
    have hlt := (List.getElem?_eq_some_iff.1 h6).1
    rcases Nat.lt_or_ge i m1.length with h | h
    · rw [List.getElem?_append_left h] at h6
      exact absurd h6 (hnone m1 hn i q)
    · simp at hlt; omega
  have hsz : es.size = m1.length + 1 := by rw [h2]; simp
  rw [Nat.zero_add] at h4
  have hf := run_findKey (P := P) hk h4
  have hib : i < es.size := by omega
  refine ⟨es.eraseIdxIfInBounds i, clock, ?_, ?_, ?_⟩
  · simp [Builtin.delete_, hts, run_und ht, go_sem, Go.MapKept.run_getObj_map h1, MK.check hk hok, hf, Go.MapKept.run_setObj_map _ h1]
  · simp [Array.eraseIdxIfInBounds, hib]; omega
  · intro j k p hp
    have hj := (List.getElem?_eq_some_iff.1 hp).1
    obtain ⟨e, h7, h8, h9⟩ := h3 j k p (by rw [List.getElem?_append_left hj]; exact hp)
    refine ⟨e, ?_, h8, h9⟩
    have hl : (es.eraseIdxIfInBounds i).toList = es.toList.eraseIdx i := by simp [Array.eraseIdxIfInBounds, hib]
    rw [← Array.getElem?_toList, hl, List.getElem?_eraseIdx, if_pos (by omega), Array.getElem?_toList]
    exact h7

/-! ### A function that leaves with one builtin among its deferred calls -/
theorem step_builtin {P : Program} {fr : Frame} {cs : List Frame} {w w' : World} {d : Deferred} {ds : List Deferred} {b : Builtin} {ts : Array TypeId} {ty : TypeId} {cn : Array Bool} {u : Value} (hm : fr.mode = .returning) (hd : fr.defers = d :: ds) (ht : d.target = .builtin b ts ty cn) (hi : (invoke d.target d.args).run P w = .ok (.value u) w') :
    step P (lone fr cs w) = .next (lone { fr with defers := ds } cs w') := by
  obtain ⟨t, a⟩ := d
  simp only at ht hi
  subst ht
  refine step_lone_go ?_
  simp [stepG, unwind, callDeferred, hm, hd, Sem.runT_eq, hi, GStep.bare_after]
def bodyPostB (P : Program) (fn : Func) (R : Ending → World → Prop) : Exit → Act → World → Prop
  | .normal, a, w | .ret, a, w => (a.defers = [] ∧ ∃ v, (results fn a.tmps).run P w = .ok v w ∧ R (.returned v) w) ∨ (∃ d b ts ty cn u w', a.defers = [d] ∧ d.target = .builtin b ts ty cn ∧ (invoke d.target d.args).run P w = .ok (.value u) w' ∧ ∃ v, (results fn a.tmps).run P w' = .ok v w' ∧ R (.returned v) w')
  | _, _, _ => False
theorem leaves_B {P : Program} {fn : Func} {R : Ending → World → Prop} {n : Nat} {tmps : Array Value} {ds : List Deferred} (w : World) (fr : Frame) (cs : List Frame) (hu : fr.mode = .returning) (hd : fr.defers = ds) (ht : fr.tmps = tmps) (hf : P.funcs[fr.fn]? = some fn) (hk : fr.kind = .normal) (hb : Fence.wide.fn fr.fn) (hroom : Fence.wide.room (cs.length + 1 + n))
    (h : (ds = [] ∧ ∃ v, (results fn tmps).run P w = .ok v w ∧ R (.returned v) w) ∨ (∃ d b ts ty cn u w', ds = [d] ∧ d.target = .builtin b ts ty cn ∧ (invoke d.target d.args).run P w = .ok (.value u) w' ∧ ∃ v, (results fn tmps).run P w' = .ok v w' ∧ R (.returned v) w')) :
    ∃ e w' fr', R e w' ∧ ComesIn (Machine.fenced P Fence.wide) P (lone fr cs w) (lone fr' cs w') e ∧ fr'.fn = fr.fn ∧ fr'.leaving P w' e := by
  rcases h with ⟨rfl, v, hr, hR⟩ | ⟨d, b, ts, ty, cn, u, w', rfl, htar, hinv, v, hr, hR⟩
  · exact leaves_stepsIn (F := Fence.wide) (n := n) [] .returning w fr cs hu hd ht hf hk hb hroom ⟨v, hr, hR⟩
  · have h1 := step_builtin (cs := cs) hu hd htar hinv
    have i1 : (lone fr cs w).fenced P Fence.wide := fenced_out (n := n) hb hroom (by rw [hu]; simp) hd (fun g hg => by rw [htar] at hg; simp [Target.leads] at hg)
    obtain ⟨e', w'', fr', hR', hs', hfn', hl'⟩ := leaves_stepsIn (F := Fence.wide) (n := n) (P := P) (fn := fn) (tmps := tmps) (R := R) [] .returning w' { fr with defers := [] } cs hu rfl ht hf hk hb hroom ⟨v, hr, hR⟩
    exact ⟨e', w'', fr', hR', ComesIn.of_steps (.one i1 h1) hs', hfn', hl'⟩
theorem callsIn_of_wp_B {P : Program} {n : Nat} {f : FuncId} {fn : Func} {c : Code} {args : Array Value} {w : World} {R : Ending → World → Prop}
    (hf : P.funcs[f]? = some fn) (hb : fn.body = some c)
    (h : c.wpIn Fence.wide n P (bodyPostB P fn R) { tmps := args ++ Array.replicate (fn.ntmps - args.size) undef, defers := [] } w) : CallsIn Fence.wide n P f args w R := by
  have hF : Fence.wide.fn f := trivial
  refine ⟨hF, fun cs hr => ?_⟩
  let b : Frame := { (default : Frame) with fn := f, kind := .normal, roundOf := none }
  have henter : Frame.enter P f args .normal =
      b.atR { tmps := args ++ Array.replicate (fn.ntmps - args.size) undef, defers := [] } [.code c] := by
    simp [Frame.enter, Frame.atR, hf, hb, b]
  obtain ⟨e, a', w', hq, harr⟩ := h b [] cs rfl hF hr
  rw [← henter] at harr
  cases e with
  | normal =>
    obtain ⟨e', w'', fr', hR, hs, hfn, hl⟩ := leaves_B (n := n) w' { b.atR a' [] with mode := .returning } cs rfl rfl rfl hf rfl hF hr hq
    exact ⟨e', w'', fr', hR, ComesIn.of_steps (StepsIn.trans harr (.one (fenced_calm (fr := b.atR a' []) hF hr rfl) (stepR_end rfl))) hs, hfn, hl⟩
  | ret =>
    obtain ⟨todo, hs₀⟩ := harr.1 rfl
    obtain ⟨e', w'', fr', hR, hs, hfn, hl⟩ := leaves_B (n := n) w' { b.atR a' todo with mode := .returning } cs rfl rfl rfl hf rfl hF hr hq
    exact ⟨e', w'', fr', hR, ComesIn.of_steps hs₀ hs, hfn, hl⟩
  | panic chain => exact hq.elim
  | exit id => exact hq.elim
  | goto l => exact hq.elim
  | outgrown => exact hq.elim

abbrev retB (C0 : Cx) (fn : Func) (R : SP → List Ent → Prop) : Exit → Act → World → Prop := bodyPostB C0.P fn (fnR C0 R)
theorem FnC_enterB {P : Program} {f : FuncId} {fn : Func} {c : Code} {args : List SP} {inn : List Ent} {R : SP → List Ent → Prop} {N : Nat} (hf : P.funcs[f]? = some fn) (hb : fn.body = some c) (hN : fn.ntmps = N) (hle : Nat.ble args.length N = true)
    (h : ∀ w0 F0 out, WPR ⟨P, w0, F0, footX inn, out, N, []⟩ c (retB ⟨P, w0, F0, footX inn, out, N, []⟩ fn R) (argEnv 0 args) inn) : FnC P f args inn R := by
  intro F w vals out hG hA
  have hle' : args.length ≤ N := Nat.le_of_ble_eq_true hle
  have hsz : vals.length = args.length := hA.len
  refine callsIn_wide.1 (callsIn_of_wp_B (n := 5) hf hb (wpIn_wide.2 ((h w F out).out F _ w ⟨hG, ?_, ?_, rfl, Ch.refl _ _, fun e he b hb => .inr ⟨e, he, hb⟩, fun b hb _ => hb⟩)))
  · intro t p hp
    obtain ⟨j, rfl, hj⟩ := look_argEnv hp
    obtain ⟨v, hv, hr⟩ := hA.at_ j p hj
    have hlt : j < vals.length := (List.getElem?_eq_some_iff.1 hv).1
    have hx : (vals.toArray ++ Array.replicate (fn.ntmps - vals.toArray.size) undef).getD (0 + j) undef = v := by
      rw [Nat.zero_add, Array.getD_eq_getD_getElem?, Array.getElem?_append_left (by simpa using hlt)]
      simp [hv]
    rw [hx]; exact hr
  · rw [hN]; simp; omega
/-- Back before the deferred call is noted. -/
theorem raw_retB0 {C0 : Cx} {fn : Func} {R : SP → List Ent → Prop} {e : Exit} {env : Env} {loc : List Ent} (hd : C0.dfs = []) (h : retP C0 fn R e env loc) : rawP C0 (retB C0 fn R) e env loc := by
  intro F a w hR
  obtain ⟨F', v, p, loc', h1, h2, h3, h4, h5, h6⟩ := h.2 F a w hR
  have hdf : a.defers = [] := hR.defers.trans hd
  have hpost : fnR C0 R (.returned v) w := ⟨v, F', p, loc', rfl, h2, h3, h4, hR.ch, h5, h6⟩
  rcases h.1 with rfl | rfl
  · exact .inl ⟨hdf, v, h1, hpost⟩
  · exact .inl ⟨hdf, v, h1, hpost⟩
abbrev Cx.withD (C : Cx) (d : Deferred) : Cx := { C with dfs := d :: C.dfs }
/-- Back, the deferred deletion done. -/
theorem raw_retB {κ : Type} [DecidableEq κ] [MK κ] {C0 : Cx} {fn : Func} {R : SP → List Ent → Prop} {e : Exit} {env : Env} {loc : List Ent} {j b : Nat} {m1 : List (κ × SP)} {k : κ} {q : SP} {t kt et ty : TypeId} {ts : Array TypeId} {cn : Array Bool} {dk : TypeDesc} (hd : C0.dfs = []) (he : loc[j]? = some (omap b (m1 ++ [(k, q)]))) (hn : mlook m1 k = none) (hts : ts[0]? = some t) (ht : C0.P.underlying t = some (.map kt et)) (hk : C0.P.underlying kt = some dk) (hok : MK.ok κ dk) (h : retP C0 fn R e env (loc.set j (omap b m1))) : rawP (C0.withD ⟨.builtin .delete ts ty cn, #[.map (some b), MK.val k]⟩) (retB C0 fn R) e env loc := by
  intro F a w hR
  have hmem : omap b (m1 ++ [(k, q)]) ∈ loc ++ C0.out := List.mem_append_left _ (List.mem_of_getElem? he)
  have hG : Good F (loc ++ C0.out) w := hR.good
  have hb := (hG.lt _ hmem b (by simp [omap])).1
  obtain ⟨es, clock, h1, h2, h3⟩ := run_delete (ty := ty) hts ht hk hok (hG.rel _ hmem) hn
  have hoth : ∀ i, i ≠ b → ({ w with heap := w.heap.setIfInBounds b (.map es clock) } : World).heap[i]? = w.heap[i]? := fun i hi => by
    simp [Array.getElem?_setIfInBounds_ne (Ne.symm hi)]
  have hR0 : Rel C0 F env loc { a with defers := [] } w := ⟨hR.good, hR.env, hR.size, hd.symm, hR.ch, hR.own, hR.grow⟩
  have hR2 : Rel C0 F env (loc.set j (omap b m1)) { a with defers := [] } { w with heap := w.heap.setIfInBounds b (.map es clock) } := by
    refine hR0.writeE (b := b) he rfl rfl (fun hm => ⟨es, clock, by simp [hb], h2, fun i k q hq => ?_⟩) hoth rfl rfl rfl (by simp)
    obtain ⟨e, h4, h5, h6⟩ := h3 i k q hq
    exact ⟨e, h4, h5, q.mono h6 hm⟩
  obtain ⟨F', v, p, loc', g1, g2, g3, g4, g5, g6⟩ := h.2 F _ _ hR2
  have hdf : a.defers = [⟨.builtin .delete ts ty cn, #[.map (some b), MK.val k]⟩] := by rw [hR.defers]; show _ :: C0.dfs = _; rw [hd]
  have hpost : fnR C0 R (.returned v) { w with heap := w.heap.setIfInBounds b (.map es clock) } := ⟨v, F', p, loc', rfl, g2, g3, g4, hR2.ch, g5, g6⟩
  have hinv : (invoke (.builtin .delete ts ty cn) #[.map (some b), MK.val k]).run C0.P w = .ok (.value (.tuple #[])) { w with heap := w.heap.setIfInBounds b (.map es clock) } := by
    simp [invoke, h1, go_sem]
  have key : (a.defers = [] ∧ ∃ v, (results fn a.tmps).run C0.P w = .ok v w ∧ fnR C0 R (.returned v) w) ∨ (∃ d b ts ty cn u w', a.defers = [d] ∧ d.target = .builtin b ts ty cn ∧ (invoke d.target d.args).run C0.P w = .ok (.value u) w' ∧ ∃ v, (results fn a.tmps).run C0.P w' = .ok v w' ∧ fnR C0 R (.returned v) w') := .inr ⟨_, _, _, _, _, _, _, hdf, rfl, hinv, v, g1, hpost⟩
  rcases h.1 with rfl | rfl <;> exact key
/-- Code that notes a deferred call of a builtin. -/
structure WPLR (C : Cx) (ops : Array Oper) (T : Exit → Act → World → Prop) (l : List Oper) (env : Env) (loc : List Ent) : Prop where
  out : ∀ F a w, Rel C F env loc a w → wpList C.P ops T l a w
theorem WPR_region {C : Cx} {id : Nat} {l : List Oper} {y : Code} {T : Exit → Act → World → Prop} {env : Env} {loc : List Ent} (h : WPLR C l.toArray (Exit.then (y.wp C.P T) T) l env loc) : WPR C (.seq (.region id l.toArray false) y) T env loc := ⟨fun F a w hR => wp_seq (wp_region_lit (h.out F a w hR))⟩
theorem WPLR_t {C : Cx} {ops : Array Oper} {T : Exit → Act → World → Prop} {d : Nat} {op : Op} {ty : TypeId} {pos : String} {af : Array Edge} {rest : List Oper} {p : SP} {env : Env} {loc : List Ent} (h : WT C (Hold fun _ => True) ⟨some d, op, ty, pos, af, none⟩ p env loc) (hd : Nat.blt d C.N = true) (hk : WPLR C ops T rest ((d, p) :: env) loc) : WPLR C ops T (⟨some d, op, ty, pos, af, none⟩ :: rest) env loc := by
  constructor
  intro F a w hR
  unfold wpList
  rw [if_pos (by simp [Region.wanted])]
  have hw := (WO_t (K := fun env loc => WPLR C ops T rest env loc) (H := fun _ => False) h hd hk).out F a w hR
  refine .inl (upon_mono ?_ (fun _ _ _ hf => hf.elim) hw)
  rintro a' w' ⟨F', env', loc', hR', _, _, _, hk⟩
  exact hk.out F' a' w' hR'
theorem WPLR_defer {C : Cx} {ops : Array Oper} {y : Code} {T : Exit → Act → World → Prop} {ty : TypeId} {pos : String} {af : Array Edge} {b : Builtin} {xs : Array Operand} {ts : Array TypeId} {env : Env} {loc : List Ent} (vs : List Value) (ha : xs.toList.map (ev env) = vs.map (fun v => some (ex v))) (hk : WPR (C.withD ⟨.builtin b ts ty (xs.map fun | .const _ => true | _ => false), vs.toArray⟩) y T env loc) : WPLR C ops (Exit.then (y.wp C.P T) T) [⟨none, .defer ⟨.builtin b, xs, ts⟩, ty, pos, af, none⟩] env loc := by
  constructor
  intro F a w hR
  unfold wpList
  rw [if_pos (by simp [Region.wanted])]
  refine .inl ?_
  have hv : xs.map a.eval = vs.toArray := by
    have h1 : xs.toList.map a.eval = vs := by
      apply List.ext_getElem?
      intro i
      have h2 := congrArg (fun l => l[i]?) ha
      simp only [List.getElem?_map] at h2 ⊢
      cases hx : xs.toList[i]? with
      | none =>
        rw [hx] at h2
        cases hv : vs[i]? with
        | none => rfl
        | some v => rw [hv] at h2; simp at h2
      | some x =>
        rw [hx] at h2
        cases hv : vs[i]? with
        | none => rw [hv] at h2; simp at h2
        | some v =>
          rw [hv] at h2
          simp only [Option.map_some, Option.some.injEq] at h2
          have : a.eval x = v := ev_eval hR h2
          simp [this]
    rw [← h1]
    apply Array.ext'
    simp
  unfold Oper.wp
  have hrun : (execOp a.eval ⟨none, .defer ⟨.builtin b, xs, ts⟩, ty, pos, af, none⟩).run C.P w = .ok (.defer ⟨.builtin b ts ty (xs.map fun | .const _ => true | _ => false), vs.toArray⟩) w := by
    generalize a.eval = ρ at hv ⊢
    simp [execOp, resolve, go_sem, hv]
    intro x _; cases x <;> rfl
  rw [hrun]
  exact hk.out F _ w ⟨hR.good, hR.env, hR.size, by show _ :: a.defers = _ :: C.dfs; rw [hR.defers], hR.ch, hR.own, hR.grow⟩
/-- Code that only falls off its end. -/
def normP (Q : Post) : Post := fun e env loc => e = .normal ∧ Q .normal env loc
theorem WP_norm {C : Cx} {c : Code} {Q : Post} {env : Env} {loc : List Ent} (h : WP C c (normP Q) env loc) : WP C c Q env loc := by
  refine ⟨fun F a w hR => Code.wp_mono ?_ (h.out F a w hR)⟩
  rintro e a' w' ⟨F', env', loc', hR', rfl, hq⟩
  exact ⟨F', env', loc', hR', hq⟩
theorem np_norm {Q : Post} : ∀ c env loc, ¬ normP Q (.panic c) env loc := fun _ _ _ h => by cases h.1
/-- From a walk in a context to the continuation of a WPR. -/
theorem WPR_of {C : Cx} {c : Code} {T : Exit → Act → World → Prop} {env : Env} {loc : List Ent} (h : WP C c (rawP C T) env loc) : WPR C c T env loc := by
  refine ⟨fun F a w hR => Code.wp_mono ?_ (h.out F a w hR)⟩
  rintro e a' w' ⟨F', env', loc', hR', hq⟩
  exact hq F' a' w' hR'
end Go.Fr

/- Frame: loops whose rounds range over functions (marks pile up among the deferred calls). No program in sight. -/
namespace Go.Fr
open Go.RowKit Go.Kx
/-- The context behind such loops: a mark for each. -/
def Cx.marks (C : Cx) : List Nat → Cx
  | [] => C
  | D :: Ds => (C.marks Ds).mark D
theorem marks_P (C : Cx) : ∀ Ds : List Nat, (C.marks Ds).P = C.P
  | [] => rfl
  | _ :: Ds => marks_P C Ds
theorem marks_w0 (C : Cx) : ∀ Ds : List Nat, (C.marks Ds).w0 = C.w0
  | [] => rfl
  | _ :: Ds => marks_w0 C Ds
theorem marks_N (C : Cx) : ∀ Ds : List Nat, (C.marks Ds).N = C.N
  | [] => rfl
  | _ :: Ds => marks_N C Ds
theorem marks_X (C : Cx) : ∀ Ds : List Nat, (C.marks Ds).X = C.X
  | [] => rfl
  | _ :: Ds => marks_X C Ds
theorem marks_F0 (C : Cx) : ∀ Ds : List Nat, (C.marks Ds).F0 = C.F0
  | [] => rfl
  | _ :: Ds => marks_F0 C Ds
/-- One mark is taken off. -/
theorem Rel.unmark {C1 : Cx} {F : Nat → Prop} {env : Env} {loc : List Ent} {a : Act} {w : World} {D : Nat} (hD : C1.w0.heap.size ≤ D) (hR : Rel (C1.mark D) F env loc a w) : (Instr.takeDeferred D).run C1.P w = .ok [] (w.putObj D (.deferred none)) ∧ a.defers = ⟨.collected D, #[]⟩ :: C1.dfs ∧ Rel C1 F env loc { a with defers := C1.dfs } (w.putObj D (.deferred none)) := by
  have hG : Good F (loc ++ (markE D :: C1.out)) w := hR.good
  have hp : (loc ++ (markE D :: C1.out)).Perm (markE D :: (loc ++ C1.out)) := List.perm_middle
  have hG2 := hG.perm hp
  have hm : w.heap[D]? = some (.deferred (some [])) := hG2.rel _ List.mem_cons_self
  have hltD := hG2.lt _ List.mem_cons_self D (by simp [markE])
  have hoth : ∀ b, b ≠ D → (w.putObj D (.deferred none)).heap[b]? = w.heap[b]? := fun b hb => World.putObj_heap_other hb
  have hkeep : ∀ b, F b → b < w.heap.size → F b ∧ (w.putObj D (.deferred none)).heap[b]? = w.heap[b]? := fun b hb _ => ⟨hb, hoth b fun e' => hltD.2 (e' ▸ hb)⟩
  have hG3 : Good F (loc ++ C1.out) (w.putObj D (.deferred none)) := by
    have hpw := List.pairwise_cons.1 hG2.disj
    refine ⟨fun x hx => x.mono (hG2.rel x (List.mem_cons_of_mem _ hx)) hkeep fun b hb => hoth b fun e' => hpw.1 x hx D (by simp [markE]) (e' ▸ hb), fun x hx b hb => ?_, hpw.2⟩
    rw [World.putObj_size]; exact hG2.lt x (List.mem_cons_of_mem _ hx) b hb
  refine ⟨run_takeDeferred hm, hR.defers, hG3, fun t p hp => p.mono (hR.env t p hp) hkeep, hR.size, rfl, ?_, hR.own, hR.grow⟩
  exact hR.ch.trans (Ch.put (X := fun b => b = D) rfl) (fun _ _ h => h) fun b hb e' => by have hb' : b < C1.w0.heap.size := hb; omega
/-- Back behind such loops: the marks are taken. -/
theorem raw_retM {C0 : Cx} {fn : Func} {R : SP → List Ent → Prop} {e : Exit} {env : Env} {loc : List Ent} {Ds : List Nat} (hd : C0.dfs = []) (hD : ∀ D ∈ Ds, C0.w0.heap.size ≤ D) (h : retP C0 fn R e env loc) : rawP (C0.marks Ds) (retT C0 fn R) e env loc := by
  have key : ∀ (Ds : List Nat), (∀ D ∈ Ds, C0.w0.heap.size ≤ D) → ∀ F a w, Rel (C0.marks Ds) F env loc a w → LeavesInM Fence.wide 5 C0.P fn a.tmps (fnR C0 R) a.defers .returning w := by
    intro Ds
    induction Ds with
    | nil =>
      intro _ F a w hR
      obtain ⟨F', v, p, loc', h1, h2, h3, h4, h5, h6⟩ := h.2 F a w hR
      have hdf : a.defers = [] := hR.defers.trans hd
      rw [hdf]
      exact ⟨v, h1, ⟨v, F', p, loc', rfl, h2, h3, h4, hR.ch, h5, h6⟩⟩
    | cons D Ds ih =>
      intro hDs F a w hR
      obtain ⟨h1, h2, h3⟩ := Rel.unmark (by rw [marks_w0]; exact hDs D List.mem_cons_self) hR
      rw [h2]
      rw [marks_P] at h1
      exact ⟨by simp, .inl ⟨D, _, rfl, h1, ih (fun D' h' => hDs D' (List.mem_cons_of_mem _ h')) F _ _ h3⟩⟩
  intro F a w hR
  rcases h.1 with rfl | rfl <;> exact key Ds hD F a w hR
theorem WPR_seqR {C : Cx} {x y : Code} {T : Exit → Act → World → Prop} {env : Env} {loc : List Ent} (h : WPR C x (Exit.then (y.wp C.P T) T) env loc) : WPR C (.seq x y) T env loc := ⟨fun F a w hR => wp_seq (h.out F a w hR)⟩
theorem WPR_blk {C : Cx} {id : Nat} {c : Code} {T : Exit → Act → World → Prop} {env : Env} {loc : List Ent} (h : WPR C c (Exit.inBlock id T) env loc) : WPR C (.block id c) T env loc := ⟨fun F a w hR => wp_block (h.out F a w hR)⟩
theorem raw_pastB {C : Cx} {id : Nat} {T : Exit → Act → World → Prop} {env : Env} {loc : List Ent} (h : rawP C T .ret env loc) : rawP C (Exit.inBlock id T) .ret env loc := fun F a w hR => h F a w hR
theorem raw_inB {C : Cx} {id : Nat} {T : Exit → Act → World → Prop} {env : Env} {loc : List Ent} (h : rawP C T .normal env loc) : rawP C (Exit.inBlock id T) .normal env loc := fun F a w hR => h F a w hR
theorem raw_exitB {C : Cx} {id : Nat} {T : Exit → Act → World → Prop} {env : Env} {loc : List Ent} (h : rawP C T .normal env loc) : rawP C (Exit.inBlock id T) (.exit id) env loc := fun F a w hR => by
  show (if id = id then T .normal a w else T (.exit id) a w)
  rw [if_pos rfl]; exact h F a w hR
theorem raw_pastE {C : Cx} {K : Act → World → Prop} {id : Nat} {T : Exit → Act → World → Prop} {env : Env} {loc : List Ent} (h : rawP C T (.exit id) env loc) : rawP C (Exit.then K T) (.exit id) env loc := fun F a w hR => h F a w hR
/-- What a round of such a loop must achieve. -/
def roundT (C0 : Cx) {α : Type} (I : α → Env × List Ent) (ok : α → Prop) (n : Nat) (μ : α → Nat) (T : Exit → Act → World → Prop) : Exit → Act → World → Prop :=
  Exit.then (fun a' w' => ∃ Ds y F, (∀ D ∈ Ds, C0.w0.heap.size ≤ D) ∧ ok y ∧ μ y < n ∧ Rel (C0.marks Ds) F (I y).1 (I y).2 a' w') T
theorem raw_round {C0 : Cx} {α : Type} {I : α → Env × List Ent} {ok : α → Prop} {n : Nat} {μ : α → Nat} {T : Exit → Act → World → Prop} {Ds : List Nat} {env : Env} {loc : List Ent} (y : α) (hD : ∀ D ∈ Ds, C0.w0.heap.size ≤ D) (hy : ok y) (hlt : μ y < n) (hl : Leads (C0.marks Ds) env loc (I y).1 (I y).2) : rawP (C0.marks Ds) (roundT C0 I ok n μ T) .normal env loc := fun F a w hR =>
  let ⟨F2, hR2⟩ := hl F a w hR
  ⟨Ds, y, F2, hD, hy, hlt, hR2⟩
theorem raw_roundP {C0 C : Cx} {α : Type} {I : α → Env × List Ent} {ok : α → Prop} {n : Nat} {μ : α → Nat} {T : Exit → Act → World → Prop} {e : Exit} {env : Env} {loc : List Ent} (he : e ≠ .normal) (h : rawP C T e env loc) : rawP C (roundT C0 I ok n μ T) e env loc := fun F a w hR => by
  have := h F a w hR
  cases e with
  | normal => exact absurd rfl he
  | _ => exact this
theorem WPR_loopM {C0 : Cx} {c : Code} {T : Exit → Act → World → Prop} {env : Env} {loc : List Ent} {α : Type} {Ds0 : List Nat} (I : α → Env × List Ent) (ok : α → Prop) (μ : α → Nat) (x0 : α) (hD0 : ∀ D ∈ Ds0, C0.w0.heap.size ≤ D) (h0 : Leads (C0.marks Ds0) env loc (I x0).1 (I x0).2) (hk : ok x0)
    (round : ∀ Ds x, (∀ D ∈ Ds, C0.w0.heap.size ≤ D) → ok x → WPR (C0.marks Ds) c (roundT C0 I ok (μ x) μ T) (I x).1 (I x).2) : WPR (C0.marks Ds0) (.loop c) T env loc := by
  have key : ∀ n x, μ x = n → ok x → ∀ Ds, (∀ D ∈ Ds, C0.w0.heap.size ≤ D) → ∀ F a w, Rel (C0.marks Ds) F (I x).1 (I x).2 a w → ∀ (b : Frame) (k : List Item) (cs : List Frame),
      ∃ e a' w', T e a' w' ∧ Arrives C0.P (lone (b.at a (.code c :: .inLoop c :: k)) cs w) b k cs e a' w' := by
    intro n
    induction n using Nat.strongRecOn with
    | _ n ih =>
      intro x hn hx Ds hDs F a w hR b k cs
      have hwp := (round Ds x hDs hx).out F a w hR
      rw [marks_P] at hwp
      obtain ⟨e, a₁, w₁, hq, harr⟩ := hwp b (.inLoop c :: k) cs
      cases e with
      | normal =>
        obtain ⟨Ds2, y, F2, hDs2, hy, hlt, hR2⟩ := hq
        obtain ⟨e₂, a₂, w₂, hq₂, harr₂⟩ := ih (μ y) (hn ▸ hlt) y rfl hy Ds2 hDs2 F2 a₁ w₁ hR2 b k cs
        exact ⟨e₂, a₂, w₂, hq₂, .of_steps (Steps.trans harr (.one step_inLoop)) harr₂⟩
      | exit id => exact ⟨_, a₁, w₁, hq, .pass (x := .inLoop c) rfl (fun _ _ => .inl (by simp)) harr⟩
      | goto l => exact ⟨_, a₁, w₁, hq, .pass (x := .inLoop c) rfl (fun _ _ => .inl (by simp)) harr⟩
      | ret => exact ⟨_, a₁, w₁, hq, .pass (x := .inLoop c) rfl (fun _ _ => .inl (by simp)) harr⟩
      | panic ch => exact ⟨_, a₁, w₁, hq, .pass (x := .inLoop c) rfl (fun _ _ => .inl (by simp)) harr⟩
      | outgrown => exact ⟨_, a₁, w₁, hq, .pass (x := .inLoop c) rfl (fun _ _ => .inl (by simp)) harr⟩
  refine ⟨fun F a w hR => ?_⟩
  rw [marks_P]
  intro b k cs
  obtain ⟨F', hR'⟩ := h0 F a w hR
  obtain ⟨e, a', w', hq, harr⟩ := key _ x0 rfl hk Ds0 hD0 F' a w hR' b k cs
  exact ⟨e, a', w', hq, .of_steps (.one step_loop) harr⟩
theorem marks_lit (P : Program) (w0 : World) (F0 X : Nat → Prop) (out : List Ent) (N : Nat) (dfs : List Deferred) : ∀ Ds : List Nat, ∃ o d, (⟨P, w0, F0, X, out, N, dfs⟩ : Cx).marks Ds = ⟨P, w0, F0, X, o, N, d⟩
  | [] => ⟨out, dfs, rfl⟩
  | D :: Ds => by
    obtain ⟨o, d, h⟩ := marks_lit P w0 F0 X out N dfs Ds
    refine ⟨markE D :: o, ⟨.collected D, #[]⟩ :: d, ?_⟩
    show Cx.mark _ D = _
    rw [h]
theorem raw_roundC {C0 C : Cx} {α : Type} {I : α → Env × List Ent} {ok : α → Prop} {n : Nat} {μ : α → Nat} {T : Exit → Act → World → Prop} {Ds : List Nat} {env : Env} {loc : List Ent} (hC : C0.marks Ds = C) (y : α) (hD : ∀ D ∈ Ds, C0.w0.heap.size ≤ D) (hy : ok y) (hlt : μ y < n) (hl : Leads C env loc (I y).1 (I y).2) : rawP C (roundT C0 I ok n μ T) .normal env loc := by
  subst hC; exact raw_round y hD hy hlt hl
theorem raw_retC {C0 C : Cx} {fn : Func} {R : SP → List Ent → Prop} {e : Exit} {env : Env} {loc : List Ent} {Ds : List Nat} (hC : C0.marks Ds = C) (hd : C0.dfs = []) (hD : ∀ D ∈ Ds, C0.w0.heap.size ≤ D) (h : retP C0 fn R e env loc) : rawP C (retT C0 fn R) e env loc := by
  subst hC; exact raw_retM hd hD h
end Go.Fr
