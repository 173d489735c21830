/- RulesLimits: the plain law: sound rules with one number changed. No program in sight. -/
import Derived.Test.YthldagplhklbnaaDoorPart9
import Derived.Test.YthldagplhklbnaaDoorPart7
import Derived.Test.YthldagplhklbnaaDoorPart4
namespace Go.Fr
open Go.RowKit Go.Kx
namespace RulesD
def core (y : RoundD) : List UInt8 × Ex × List UInt8 × Int := (y.name, y.score, y.tie, y.tieNo)
/-- Rules that differ in numbers alone. -/
structure Like (r x : RulesD) : Prop where
  name : x.name = r.name
  crits : x.crits.map (·.name) = r.crits.map (·.name)
  bonus : x.bonus.map (·.name) = r.bonus.map (·.name)
  malus : x.malus = r.malus
  ties : x.ties = r.ties
  rounds : x.rounds.map core = r.rounds.map core
  points : x.points = r.points
theorem core_mem {r x : RulesD} (h : Like r x) {y : RoundD} (hy : y ∈ x.rounds) : ∃ z ∈ r.rounds, core y = core z := by
  have h1 : core y ∈ r.rounds.map core := by rw [← h.rounds]; exact List.mem_map_of_mem hy
  obtain ⟨z, hz, e⟩ := List.mem_map.1 h1
  exact ⟨z, hz, e.symm⟩
theorem Like.n0 {r x : RulesD} (h : Like r x) : x.n0 = r.n0 := h.crits
theorem Like.n1 {r x : RulesD} (h : Like r x) : x.n1 = r.n1 := by unfold RulesD.n1; rw [h.bonus, h.malus]
theorem Like.n2 {r x : RulesD} (h : Like r x) : x.n2 = r.n2 := by unfold RulesD.n2; rw [h.ties]
theorem Like.n3 {r x : RulesD} (h : Like r x) : x.n3 = r.n3 := by
  have := congrArg (List.map (fun c : List UInt8 × Ex × List UInt8 × Int => c.1)) h.rounds
  rw [List.map_map, List.map_map] at this
  exact this
theorem Like.lc {r x : RulesD} (h : Like r x) : x.crits.length = r.crits.length := by simpa using congrArg List.length h.crits
theorem Like.lb {r x : RulesD} (h : Like r x) : x.bonus.length = r.bonus.length := by simpa using congrArg List.length h.bonus
theorem Like.lr {r x : RulesD} (h : Like r x) : x.rounds.length = r.rounds.length := by simpa using congrArg List.length h.rounds
theorem Like.check {fr : List UInt8 → Bool} {r x : RulesD} (h : Like r x) (hc : r.check fr = 0) (hp : x.prizes.length ≤ 64) : x.check fr = 0 := by
  obtain ⟨h1, h2, h3, h4, h5⟩ := check_zero.1 hc
  refine check_zero.2 ⟨?_, ?_, ?_, ?_, ?_⟩
  · unfold large big at h1 ⊢
    rw [h.lc, h.lb, h.malus, h.ties, h.lr, h.points]
    simp only [Bool.or_eq_false_iff, decide_eq_false_iff_not] at h1 ⊢
    obtain ⟨⟨a1, a2, a3, a4, a5, a6, a7⟩, b1, b2⟩ := h1
    refine ⟨⟨a1, a2, a3, a4, a5, by omega, a7⟩, b1, ?_⟩
    rw [List.any_eq_false] at b2 ⊢
    intro y hy
    obtain ⟨z, hz, e⟩ := core_mem h hy
    have e1 : y.score = z.score := congrArg (fun c : List UInt8 × Ex × List UInt8 × Int => c.2.1) e
    rw [e1]; exact b2 z hz
  · unfold namedB at h2 ⊢
    rw [h.name, h.n0, h.n1, h.n2, h.n3]; exact h2
  · unfold once at h3 ⊢
    rw [h.n0, h.n1, h.n2, h.n3]; exact h3
  · unfold allOk at h4 ⊢
    rw [h.ties]
    rw [Bool.and_eq_true, List.all_eq_true, List.all_eq_true] at h4 ⊢
    refine ⟨fun t ht => ?_, fun y hy => ?_⟩
    · have := h4.1 t ht
      unfold tieOk at this ⊢
      rw [h.n0, h.n2, h.n3]; exact this
    · obtain ⟨z, hz, e⟩ := core_mem h hy
      have e1 : y.score = z.score := congrArg (fun c : List UInt8 × Ex × List UInt8 × Int => c.2.1) e
      have e2 : y.tie = z.tie := congrArg (fun c : List UInt8 × Ex × List UInt8 × Int => c.2.2.1) e
      have := h4.2 z hz
      unfold roundOk at this ⊢
      rw [h.n0, h.n2, h.n3, e1, e2]; exact this
  · have et : ∀ t ∈ x.ties, x.tieN t = t := fun t ht => by
      rw [h.ties] at ht
      have e1 : r.tieN t = t := map_fix (congrArg RulesD.ties h5) t ht
      unfold tieN at e1 ⊢
      rw [h.n0, h.n2, h.n3]; exact e1
    have ey : ∀ y ∈ x.rounds, x.roundN y = y := fun y hy => by
      obtain ⟨z, hz, e⟩ := core_mem h hy
      have e1 : y.score = z.score := congrArg (fun c : List UInt8 × Ex × List UInt8 × Int => c.2.1) e
      have e2 : y.tie = z.tie := congrArg (fun c : List UInt8 × Ex × List UInt8 × Int => c.2.2.1) e
      have e3 : y.tieNo = z.tieNo := congrArg (fun c : List UInt8 × Ex × List UInt8 × Int => c.2.2.2) e
      have g1 : r.roundN z = z := map_fix (congrArg RulesD.rounds h5) z hz
      have g2 : z.score.res r.n0 r.n3 = z.score := congrArg RoundD.score g1
      have g3 : (if z.tie = [] then -1 else indexF r.n2 z.tie) = z.tieNo := congrArg RoundD.tieNo g1
      unfold roundN
      rw [h.n0, h.n2, h.n3, e1, e2, g2, g3, ← e1, ← e2, ← e3]
    unfold resolved
    rw [List.map_congr_left et, List.map_congr_left ey, List.map_id', List.map_id']
theorem Like.few {r x : RulesD} (h : Like r x) (hf : r.few = true) (hp : x.prizes.length ≤ 70) : x.few = true := by
  unfold RulesD.few at hf ⊢
  rw [h.lc, h.lb, h.malus, h.ties, h.lr, h.points]
  simp only [Bool.and_eq_true, Bool.not_eq_true', Bool.or_eq_false_iff, decide_eq_false_iff_not, List.all_eq_true] at hf ⊢
  obtain ⟨⟨a1, a2, a3, a4, a5, a6, a7⟩, b1, b2⟩ := hf
  refine ⟨⟨a1, a2, a3, a4, a5, by omega, a7⟩, b1, fun y hy => ?_⟩
  obtain ⟨z, hz, e⟩ := core_mem h hy
  have e1 : y.score = z.score := congrArg (fun c : List UInt8 × Ex × List UInt8 × Int => c.2.1) e
  rw [e1]; exact b2 z hz
/-- What the law asks of changed rules. -/
def Refused (fr : List UInt8 → Bool) (r x : RulesD) : Prop := Like r x ∧ x.few = true ∧ ((x.check15 fr).2 = 150 ∨ ((x.check15 fr).2 = 2 ∧ 64 < x.prizes.length))
theorem check0 {fr : List UInt8 → Bool} {r : RulesD} (h : (r.check15 fr).2 = 0) : r.check fr = 0 := by
  unfold check15 at h
  split at h
  · rename_i h1; exact absurd h h1
  · rename_i h1; simpa using h1
theorem prizes64 {fr : List UInt8 → Bool} {r : RulesD} (h : r.check fr = 0) : r.prizes.length ≤ 64 := by
  have h1 := (check_zero.1 h).1
  unfold large big at h1
  simp only [Bool.or_eq_false_iff, decide_eq_false_iff_not] at h1
  obtain ⟨⟨a1, a2, a3, a4, a5, a6, a7⟩, b1, b2⟩ := h1
  omega
theorem refused_of {fr : List UInt8 → Bool} {r x : RulesD} (h : (r.check15 fr).2 = 0) (hf : r.few = true) (hl : Like r x) (hp : x.prizes.length ≤ 64) (hx : x.fine = false) : Refused fr r x := by
  refine ⟨hl, hl.few hf (by omega), .inl ?_⟩
  have hc := hl.check (check0 h) hp
  unfold check15
  rw [hc, hx]; rfl
theorem like_crit {r : RulesD} {i : Nat} (hi : i < r.crits.length) {c : Crit} (hn : c.name = r.crits[i].name) : Like r { r with crits := r.crits.set i c } := by
  refine ⟨rfl, ?_, rfl, rfl, rfl, rfl, rfl⟩
  show (r.crits.set i c).map (·.name) = r.crits.map (·.name)
  refine List.ext_getElem (by simp) fun j h1 h2 => ?_
  rw [List.getElem_map, List.getElem_map, List.getElem_set]
  split
  · rename_i e; subst e; exact hn
  · rfl
theorem like_round {r : RulesD} {i : Nat} (hi : i < r.rounds.length) {c : RoundD} (hn : core c = core r.rounds[i]) : Like r { r with rounds := r.rounds.set i c } := by
  refine ⟨rfl, rfl, rfl, rfl, rfl, ?_, rfl⟩
  show (r.rounds.set i c).map core = r.rounds.map core
  refine List.ext_getElem (by simp) fun j h1 h2 => ?_
  rw [List.getElem_map, List.getElem_map, List.getElem_set]
  split
  · rename_i e; subst e; exact hn
  · rfl
theorem like_bonus {r : RulesD} {i : Nat} (hi : i < r.bonus.length) {c : ItemD} (hn : c.name = r.bonus[i].name) : Like r { r with bonus := r.bonus.set i c } := by
  refine ⟨rfl, rfl, ?_, rfl, rfl, rfl, rfl⟩
  show (r.bonus.set i c).map (·.name) = r.bonus.map (·.name)
  refine List.ext_getElem (by simp) fun j h1 h2 => ?_
  rw [List.getElem_map, List.getElem_map, List.getElem_set]
  split
  · rename_i e; subst e; exact hn
  · rfl
theorem all_set_false {α : Type} {p : α → Bool} {l : List α} {i : Nat} {x : α} (hi : i < l.length) (h : p x = false) : (l.set i x).all p = false := by
  rw [List.all_eq_false]
  refine ⟨x, List.mem_iff_getElem.2 ⟨i, by simpa using hi, by simp⟩, by rw [h]; simp⟩
theorem fine_crits {r : RulesD} (h : r.crits.all Crit.fine = false) : r.fine = false := by
  unfold fine; rw [h]; simp
theorem fine_bonus {r : RulesD} (h : r.bonus.all ItemD.fine = false) : r.fine = false := by
  unfold fine; rw [h]; simp
theorem fine_rounds {r : RulesD} (h : r.rounds.all (RoundD.fine r.crits) = false) : r.fine = false := by
  unfold fine; rw [h]; simp
theorem lim_crit {fr : List UInt8 → Bool} {r : RulesD} (h : (r.check15 fr).2 = 0) (hf : r.few = true) {i : Nat} (hi : i < r.crits.length) {c : Crit} (hn : c.name = r.crits[i].name) (hx : c.fine = false) : Refused fr r { r with crits := r.crits.set i c } :=
  refused_of h hf (like_crit hi hn) (show r.prizes.length ≤ 64 from prizes64 (check0 h)) (fine_crits (all_set_false hi hx))
theorem lim_bonus {fr : List UInt8 → Bool} {r : RulesD} (h : (r.check15 fr).2 = 0) (hf : r.few = true) {i : Nat} (hi : i < r.bonus.length) {c : ItemD} (hn : c.name = r.bonus[i].name) (hx : c.fine = false) : Refused fr r { r with bonus := r.bonus.set i c } :=
  refused_of h hf (like_bonus hi hn) (show r.prizes.length ≤ 64 from prizes64 (check0 h)) (fine_bonus (all_set_false hi hx))
theorem lim_round {fr : List UInt8 → Bool} {r : RulesD} (h : (r.check15 fr).2 = 0) (hf : r.few = true) {i : Nat} (hi : i < r.rounds.length) {c : RoundD} (hn : core c = core r.rounds[i]) (hx : decide (1 ≤ c.panel ∧ c.panel ≤ 256 ∧ 1 ≤ c.quota ∧ c.quota ≤ 4096 ∧ 1 ≤ c.cut ∧ c.cut ≤ 3) = false) : Refused fr r { r with rounds := r.rounds.set i c } :=
  refused_of h hf (like_round hi hn) (show r.prizes.length ≤ 64 from prizes64 (check0 h)) (fine_rounds (all_set_false hi (by unfold RoundD.fine; rw [hx]; rfl)))
theorem fine_parts {fr : List UInt8 → Bool} {r : RulesD} (h : (r.check15 fr).2 = 0) : r.fine = true := by
  unfold check15 at h
  split at h
  · rename_i h1; exact absurd h h1
  · split at h
    · cases h
    · rename_i h2; simpa using h2
theorem crit_facts {fr : List UInt8 → Bool} {r : RulesD} (h : (r.check15 fr).2 = 0) {i : Nat} (hi : i < r.crits.length) : 0 ≤ r.crits[i].low ∧ r.crits[i].low < r.crits[i].high ∧ r.crits[i].high ≤ 1000 ∧ 1 ≤ r.crits[i].step := by
  have h1 := fine_parts h
  unfold fine at h1
  rw [Bool.and_eq_true, Bool.and_eq_true] at h1
  have h2 := List.all_eq_true.1 h1.2.1 _ (List.getElem_mem hi)
  unfold Crit.fine at h2
  have h3 := of_decide_eq_true h2
  exact ⟨h3.1, h3.2.1, h3.2.2.1, h3.2.2.2.1⟩
theorem round_facts {fr : List UInt8 → Bool} {r : RulesD} (h : (r.check15 fr).2 = 0) {i : Nat} (hi : i < r.rounds.length) : 1 ≤ r.rounds[i].panel ∧ r.rounds[i].panel ≤ 256 := by
  have h1 := fine_parts h
  unfold fine at h1
  simp only [Bool.and_eq_true] at h1
  have h2 := List.all_eq_true.1 h1.2.2.2.2.2.2.2.2 _ (List.getElem_mem hi)
  unfold RoundD.fine at h2
  rw [Bool.and_eq_true] at h2
  have h3 := of_decide_eq_true h2.1
  exact ⟨h3.1, h3.2.1⟩
/-- The trim of a criterion leaves no mark to a round's panel. -/
theorem lim_trim {fr : List UInt8 → Bool} {r : RulesD} (h : (r.check15 fr).2 = 0) (hf : r.few = true) {i j : Nat} (hi : i < r.crits.length) (hj : j < r.rounds.length) {c : Crit} (hn : c.name = r.crits[i].name) (hx : r.rounds[j].panel ≤ 2 * c.trim) : Refused fr r { r with crits := r.crits.set i c } := by
  refine refused_of h hf (like_crit hi hn) (show r.prizes.length ≤ 64 from prizes64 (check0 h)) (fine_rounds ?_)
  rw [List.all_eq_false]
  refine ⟨r.rounds[j], List.getElem_mem hj, ?_⟩
  unfold RoundD.fine
  have : (r.crits.set i c).all (fun c => decide (2 * c.trim < r.rounds[j].panel)) = false := all_set_false hi (by rw [decide_eq_false_iff_not]; omega)
  rw [show ({ r with crits := r.crits.set i c } : RulesD).crits = r.crits.set i c from rfl, this]
  simp
theorem lim_best {fr : List UInt8 → Bool} {r : RulesD} (h : (r.check15 fr).2 = 0) (hf : r.few = true) : Refused fr r { r with best := 65 } := by
  refine refused_of h hf ⟨rfl, rfl, rfl, rfl, rfl, rfl, rfl⟩ (show r.prizes.length ≤ 64 from prizes64 (check0 h)) ?_
  unfold fine
  rw [show decide (0 ≤ ({ r with best := 65 } : RulesD).best ∧ ({ r with best := 65 } : RulesD).best ≤ 64 ∧ (({ r with best := 65 } : RulesD).best = 0 ↔ r.points.length = 0)) = false from decide_eq_false (fun e => absurd (show (65 : Int) ≤ 64 from e.2.1) (by decide))]
  simp
theorem fall_last : ∀ (l : List Int) (m : Int), fallF m (l ++ [-1]) = false
  | [], m => by simp [fallF, inB]
  | a :: l, m => by rw [List.cons_append, fallF, fall_last l a, Bool.and_false]
theorem lim_prizes {fr : List UInt8 → Bool} {r : RulesD} (h : (r.check15 fr).2 = 0) (hf : r.few = true) : Refused fr r { r with prizes := r.prizes ++ [-1] } := by
  have hl : Like r { r with prizes := r.prizes ++ [-1] } := ⟨rfl, rfl, rfl, rfl, rfl, rfl, rfl⟩
  have h64 := prizes64 (check0 h)
  by_cases hp : r.prizes.length = 64
  · refine ⟨hl, hl.few hf (by show (r.prizes ++ [-1]).length ≤ 70; simp [hp]), .inr ⟨?_, by show 64 < (r.prizes ++ [-1]).length; simp [hp]⟩⟩
    have hb : ({ r with prizes := r.prizes ++ [-1] } : RulesD).large = true := by
      unfold large big
      rw [show decide (64 < ({ r with prizes := r.prizes ++ [-1] } : RulesD).prizes.length) = true from decide_eq_true (by show 64 < (r.prizes ++ [-1]).length; simp [hp])]
      simp
    have hc : ({ r with prizes := r.prizes ++ [-1] } : RulesD).check fr = 2 := by
      unfold check resolve
      rw [if_pos hb]; rfl
    unfold check15
    rw [hc]; rfl
  · refine refused_of h hf hl (by show (r.prizes ++ [-1]).length ≤ 64; simp; omega) ?_
    unfold fine
    rw [show fallF 1099511627776 ({ r with prizes := r.prizes ++ [-1] } : RulesD).prizes = false from fall_last _ _]
    simp
end RulesD
end Go.Fr

/- RulesLimits: the law's walk. -/
-- STRINGS
-- ROWS
-- PRUNEC
namespace Go.Fr
theorem flat_get {α : Type} {fs : α → List SP} {s : Nat} (h0 : ∀ a, (fs a).length = s) (l : List α) (i : Nat) (hi : i < l.length) (j : Nat) (hj : j < s) (p : SP) (h : (fs l[i])[j]? = some p) : (l.flatMap fs)[0 + i * s + j]? = some p := by
  rw [Nat.zero_add, ← List.getElem?_drop, flat_drop h0 l i hi, List.getElem?_append_left (by rw [h0]; exact hj)]
  exact h
instance {n : Int} : Scs (intV n) := by unfold intV; infer_instance
end Go.Fr
namespace Go.Proofs.YthldagplhklbnaaDoor
open Go Go.RowKit Go.Kx Go.Fr
set_option maxHeartbeats 4000000 in
set_option maxRecDepth 100000 in
theorem rulesLimits_any (kk : Nat) (r : RulesD) (at_ turn : Nat) (ha : at_ ≤ 255) (_ : turn ≤ 255) : FnC Tryd.prog 5 [rul kk r, exI .u8 (at_ : Int), exI .u8 (turn : Int)] [Tab] (fun p loc => p = exB true ∧ loc = []) := by
  have hfw := few15_any kk r
  by_cases hf : r.few15 = true
  · have hf14 := RulesD.few_of15 hf
    have hck := nCheck15_any kk r hf14
    rw [hf] at hfw
    by_cases hc : (r.check15 freeF).2 = 0
    · rw [hc] at hck
      obtain ⟨-, hfi, -⟩ := RulesD.exp_of hc
      obtain ⟨hcl, hrl⟩ : 0 < r.crits.length ∧ 0 < r.rounds.length := by
        unfold RulesD.fine at hfi
        rw [Bool.and_eq_true, decide_eq_true_iff] at hfi
        exact hfi.1
      obtain ⟨hf1, hf2, hf3, hf4, hf5, hf6, hf7, hf8, hf9⟩ := few_facts hf14
      unfold rul at *
      refine FnC_enter Tryd.func5 rfl Tryd.ntmps5 rfl fun w0 F0 out => ?_
      (repeat' (first | (apply at_region 7; refine Stop.out ?_) | refine WP_seq ?_ | refine WP_region ?_ | refine WPL_nil ?_ | (apply WPL_t; (first | exact WT_move rfl | exact WT_assign rfl | exact WT_pick (b := false) rfl (fun e => by cases e) (fun _ => rfl) | (apply g_load; first | exact WT_load (k := 0) rfl rfl rfl rfl | exact WT_loada2 (k := 0) rfl rfl rfl) | (apply g_fld; first | exact WT_field rfl rfl rfl) | (apply g_bin; first | exact WT_eql rfl rfl) | (apply g_call; first | exact WT_len rfl rfl) | (apply g_un; first | exact WT_not rfl)); exact rfl) | (apply WPL_gt; exact rfl; exact rfl; exact rfl; (first | (apply g_load; first | exact WT_load (k := 0) rfl rfl rfl rfl | exact WT_loada2 (k := 0) rfl rfl rfl) | (apply g_fld; first | exact WT_field rfl rfl rfl) | (apply g_bin; first | exact WT_eql rfl rfl | exact WT_neq rfl rfl) | (apply g_call; first | exact WT_len rfl rfl)); exact rfl) | refine WP_skip ?_ | refine WP_cond_f rfl ?_ | (apply WPL_op0; exact rfl; first | (apply g_callf; first | (refine WO_callG (.dup 1 rfl rfl .nil) Tryd.func7 rfl sane15_any rfl ?_ (hH := hH_tab2); rintro _ _ ⟨rfl, rfl⟩) | (refine WO_call Tryd.func8 rfl hfw rfl ?_; rintro _ _ ⟨rfl, rfl⟩)) | (apply g_box; refine WO_box rfl ?_; intro _)) | (apply WPL_on0; exact rfl; exact rfl; exact rfl; exact rfl; (apply g_callf; first | (refine WO_callG (.dup 1 rfl rfl .nil) Tryd.func9 rfl hck rfl ?_ (hH := hH_tab2); rintro _ _ ⟨rfl, rfl⟩))) | (refine WPL_case rfl rfl (fun hb => ?_) (fun hb => ?_) <;> (repeat (first | replace hb := dec_t hb | replace hb := dec_f hb)) <;> (try (exfalso; first | omega))) | (refine WP_cond rfl (fun hb => ?_) (fun hb => ?_) <;> (repeat (first | replace hb := dec_t hb | replace hb := dec_f hb)) <;> (try (exfalso; first | omega)))))
      all_goals (try (exfalso; omega))
      rename_i b3 h9
      refine ⟨?_⟩
      (repeat' (first | (apply cut_at 10; refine Stop.out ?_) | (apply at_store; refine WPL_vv (k := 0) rfl (by omega) ?_; intro _ _ hv; subst hv) | (apply at_store; refine WPL_vsl (k := 0) rfl ?_; intro _ _ hv; subst hv) | refine WP_seq ?_ | refine WP_region ?_ | refine WPL_nil ?_ | (apply WPL_t; (first | (apply g_load; first | exact WT_load (k := 1) rfl rfl rfl rfl | exact WT_load (k := 2) rfl rfl rfl rfl | exact WT_load (k := 3) rfl rfl rfl rfl) | (apply g_fld; first | exact WT_field rfl rfl rfl)); exact rfl) | (apply WPL_op0; exact rfl; first | (apply g_store; first | refine WO_store (k := 1) (l0 := []) rfl rfl rfl ?_ | refine WO_store (k := 2) (l0 := []) rfl rfl rfl ?_ | refine WO_store (k := 3) (l0 := []) rfl rfl rfl ?_) | (apply g_append; (first | (refine WO_append_row (k := 0) (l0 := []) rfl rfl rfl rfl (by first | exact Src_isl rfl) rfl ?_)); intro _) | (apply g_bslice; (first | refine WO_bslice0 rfl ?_); intro _))))
      all_goals (try (exfalso; omega))
      rename_i bz1 bc cc bz2 bx cx bz3 ob cb
      refine ⟨?_⟩
      rw [Nat.zero_add r.crits.length, Nat.zero_add r.rounds.length, Nat.zero_add r.bonus.length]
      refine WP_vec3 (k := 1) rfl hrl fun bx' k7 hv hnx hcx => ?_
      cases hv
      refine WP_vec3 (k := 2) rfl hcl fun bc' k7 hv hnc hcc => ?_
      cases hv
      have hend : ∀ x, RulesD.Refused freeF r x → WP ⟨Tryd.prog, w0, F0, footX [Tab], out, 183, []⟩ (rights 10 (Tryd.f5.body.getD .skip)) (retP ⟨Tryd.prog, w0, F0, footX [Tab], out, 183, []⟩ Tryd.f5 (fun p loc => p = exB true ∧ loc = [])) [(3, ex (.pointer (some ⟨b3, 0, none⟩)))] [row bx 45 (cx * 13) (x.rounds.flatMap (roundV kk)), row bc 48 (cc * 7) (x.crits.flatMap critV), row b3 28 9 [exT x.name, ex (.slice (some ⟨bc, 0, none⟩) r.crits.length cc), isl eItem x.bonus, isl eItem x.malus, isl eTie x.ties, ex (.slice (some ⟨bx, 0, none⟩) r.rounds.length cx), isl eI x.prizes, isl eI x.points, exI .i64 x.best], Tab] := fun x hx => by
        obtain ⟨hl, hfx, hres⟩ := hx
        refine WP_leads (Leads_row_vec (k := 0) (sz := 13) (n := r.rounds.length) (c := cx) rfl rfl (by rw [length_flat (fs := roundV kk) (s := 13) (fun _ => rfl), hl.lr]) (by decide) hcx Leads.refl) ?_
        refine WP_leads (Leads_fcell (j := 0) (k := 1) (i := 5) (E := eRound kk) (fs := roundV kk) x.rounds rfl rfl rfl hl.lr rfl rfl (hby := by show r.rounds.length * 136 ≤ _; omega)) ?_
        refine WP_leads (Leads_row_vec (k := 0) (sz := 7) (n := r.crits.length) (c := cc) rfl rfl (by rw [length_flat (fs := critV) (s := 7) (fun _ => rfl), hl.lc]) (by decide) hcc Leads.refl) ?_
        refine WP_leads (Leads_fcell (j := 0) (k := 0) (i := 1) (E := eCrit) (fs := critV) x.crits rfl rfl rfl hl.lc rfl rfl (hby := by show r.crits.length * 64 ≤ _; omega)) ?_
        have hck := nCheck15_any kk x hfx
        unfold rul at hck
        refine WP_leads (Leads_env (env' := [(3, ex (.pointer (some ⟨b3, 0, none⟩)))]) (loc' := [row b3 28 9 (rulesV kk x), Tab]) (by repeat (first | exact sub_nil | refine sub_cons rfl ?_)) (List.Sublist.refl _)) ?_
        show WP _ (.seq _ _) _ _ _
        have hpx : x.prizes.length ≤ 70 := (few_facts hfx).2.2.2.2.2.1
        generalize (RulesD.check15 freeF x).2 = e at hck hres
        rcases hres with rfl | ⟨rfl, h64⟩
        · (repeat' (first | refine WP_seq ?_ | refine WP_region ?_ | refine WPL_nil ?_ | (apply WPL_t; (first | exact WT_move rfl | exact WT_assign rfl | exact WT_pick (b := true) rfl (fun _ => rfl) (fun e => by cases e) | (apply g_load; first | exact WT_loada2 (k := 0) rfl rfl rfl) | (apply g_bin; first | exact WT_eql rfl rfl)); exact rfl) | (refine WPL_off rfl rfl rfl rfl rfl ?_) | (refine WPL_offu rfl rfl rfl rfl ?_) | refine WP_ret ?_ | (apply WPL_op0; exact rfl; first | (apply g_callf; first | (refine WO_callG (.dup 1 rfl rfl .nil) Tryd.func9 rfl hck rfl ?_ (hH := hH_tab2); rintro _ _ ⟨rfl, rfl⟩)))))
          all_goals (try (exfalso; first | contradiction | omega))
          all_goals (refine ⟨.inr rfl, ret1 rfl (.tmp rfl) (List.nil_sublist _) ⟨?_, rfl⟩⟩)
          all_goals rfl
        · (repeat' (first | refine WP_seq ?_ | refine WP_region ?_ | refine WPL_nil ?_ | (apply WPL_t; (first | exact WT_move rfl | exact WT_assign rfl | exact WT_pick (b := false) rfl (fun e => by cases e) (fun _ => rfl) | (apply g_load; first | exact WT_loada2 (k := 0) rfl rfl rfl) | (apply g_bin; first | exact WT_eql rfl rfl)); exact rfl) | (apply WPL_gt; exact rfl; exact rfl; exact rfl; (first | exact WT_move rfl | exact WT_pick (b := true) rfl (fun _ => rfl) (fun e => by cases e) | (apply g_load; first | exact WT_load (k := 0) rfl rfl rfl rfl) | (apply g_fld; first | exact WT_field rfl rfl rfl) | (apply g_bin; first | exact WT_eql rfl rfl | exact WT_gtr rfl rfl) | (apply g_call; first | exact WT_len rfl rfl)); exact rfl) | refine WP_ret ?_ | (apply WPL_op0; exact rfl; first | (apply g_callf; first | (refine WO_callG (.dup 1 rfl rfl .nil) Tryd.func9 rfl hck rfl ?_ (hH := hH_tab2); rintro _ _ ⟨rfl, rfl⟩)))))
          all_goals (try (exfalso; first | contradiction | omega))
          all_goals (refine ⟨.inr rfl, ret1 rfl (.tmp rfl) (List.nil_sublist _) ⟨?_, rfl⟩⟩)
          all_goals exact congrArg exB (decide_eq_true (by omega))
      have hi := Nat.mod_lt at_ hcl
      have hj := Nat.mod_lt at_ hrl
      by_cases h13 : turn % 14 = 13 ∧ 0 < r.bonus.length
      · obtain ⟨h13, hbl⟩ := h13
        refine WP_vec3 (k := 0) rfl hbl fun bo co hv hno hco => ?_
        cases hv
        have ho := Nat.mod_lt at_ hbl
        refine WP_leads (env' := [(1, exI .u8 (at_ : Int)), (2, exI .u8 (turn : Int)), (3, ex (.pointer (some ⟨b3, 0, none⟩)))]) (loc' := [row bo 52 (cb * 3) (r.bonus.flatMap itemV), row bx 45 (cx * 13) (r.rounds.flatMap (roundV kk)), row bc 48 (cc * 7) (r.crits.flatMap critV), row b3 28 9 [exT r.name, ex (.slice (some ⟨bc, 0, none⟩) r.crits.length cc), ex (.slice (some ⟨bo, 0, none⟩) r.bonus.length cb), isl eItem r.malus, isl eTie r.ties, ex (.slice (some ⟨bx, 0, none⟩) r.rounds.length cx), isl eI r.prizes, isl eI r.points, exI .i64 r.best], Tab]) (Leads_env (by repeat (first | exact sub_nil | refine sub_cons rfl ?_)) (List.Sublist.refl _)) ?_
        refine WP_cutR 10 (fun _ : Unit => ([(1, exI .u8 (at_ : Int)), (2, exI .u8 (turn : Int)), (3, ex (.pointer (some ⟨b3, 0, none⟩)))], [row bo 52 (cb * 3) (r.bonus.flatMap itemV), row bx 45 (cx * 13) (r.rounds.flatMap (roundV kk)), row bc 48 (cc * 7) (r.crits.flatMap critV), row b3 28 9 [exT r.name, ex (.slice (some ⟨bc, 0, none⟩) r.crits.length cc), ex (.slice (some ⟨bo, 0, none⟩) r.bonus.length cb), isl eItem r.malus, isl eTie r.ties, ex (.slice (some ⟨bx, 0, none⟩) r.rounds.length cx), isl eI r.prizes, isl eI r.points, exI .i64 r.best], Tab])) (fun _ => True) ?_ fun _ _ => ?_
        · skip
          (refine WP_draw ([row b3 28 9 [exT r.name, ex (.slice (some ⟨bc, 0, none⟩) r.crits.length cc), ex (.slice (some ⟨bo, 0, none⟩) r.bonus.length cb), isl eItem r.malus, isl eTie r.ties, ex (.slice (some ⟨bx, 0, none⟩) r.rounds.length cx), isl eI r.prizes, isl eI r.points, exI .i64 r.best]]) 10 rfl ?_)
          all_goals ((apply WPY_pure 0 rfl (by decide +kernel) rfl (by repeat (first | exact np_ret)) guard_none; (first | (apply g_fld; first | exact WT_field rfl rfl rfl)); exact rfl))
          all_goals ((apply WPY_take 1 rfl (by decide +kernel) rfl (by decide +kernel) (by repeat (first | exact np_ret)) guard_none; (first | (apply g_load; first | exact WT_load (k := 3) rfl rfl rfl rfl)); exact rfl))
          all_goals ((apply WPY_pure 2 rfl (by decide +kernel) rfl (by repeat (first | exact np_ret)) guard_none; (first | exact WT_move rfl); exact rfl))
          all_goals ((first | (apply WPY_pure 3 rfl (by decide +kernel) rfl (by repeat (first | exact np_ret)) guard_none; (first | (apply g_conv; first | exact WT_conv rfl rfl rfl)); exact rfl)))
          all_goals ((apply WPY_pure 4 rfl (by decide +kernel) rfl (by repeat (first | exact np_ret)) guard_none; (first | (apply g_fld; first | exact WT_field rfl rfl rfl)); exact rfl))
          all_goals ((apply WPY_take 5 rfl (by decide +kernel) rfl (by decide +kernel) (by repeat (first | exact np_ret)) guard_none; (first | (apply g_load; first | exact WT_load (k := 3) rfl rfl rfl rfl)); exact rfl))
          all_goals ((apply WPY_pure 6 rfl (by decide +kernel) rfl (by repeat (first | exact np_ret)) guard_none; (first | (apply g_call; first | exact WT_lenv rfl rfl)); exact rfl))
          all_goals ((apply WPY_pure 7 rfl (by decide +kernel) rfl (by repeat (first | exact np_ret)) guard_none; (first | (apply g_bin; first | exact WT_rem rfl rfl)); exact rfl))
          all_goals ((apply WPY_pure 8 rfl (by decide +kernel) rfl (by repeat (first | exact np_ret)) guard_none; (first | (apply g_index; first | exact WT_indexo rfl rfl rfl)); exact rfl))
          all_goals ((apply WPY_pure 9 rfl (by decide +kernel) rfl (by repeat (first | exact np_ret)) guard_none; (first | exact WT_assign rfl); exact rfl))
          all_goals (refine WPY_done (by decide +kernel) ?_)
          all_goals exact cut_here () trivial (Leads_env (by repeat (first | exact sub_nil | refine sub_cons rfl ?_)) (List.Sublist.refl _))
        refine WP_cutR 11 (fun _ : Unit => ([(1, exI .u8 (at_ : Int)), (2, exI .u8 (turn : Int)), (3, ex (.pointer (some ⟨b3, 0, none⟩)))], [row bo 52 (cb * 3) (r.bonus.flatMap itemV), row bx 45 (cx * 13) (r.rounds.flatMap (roundV kk)), row bc 48 (cc * 7) (r.crits.flatMap critV), row b3 28 9 [exT r.name, ex (.slice (some ⟨bc, 0, none⟩) r.crits.length cc), ex (.slice (some ⟨bo, 0, none⟩) r.bonus.length cb), isl eItem r.malus, isl eTie r.ties, ex (.slice (some ⟨bx, 0, none⟩) r.rounds.length cx), isl eI r.prizes, isl eI r.points, exI .i64 r.best], Tab])) (fun _ => True) ?_ fun _ _ => ?_
        · skip
          (refine WP_draw ([row b3 28 9 [exT r.name, ex (.slice (some ⟨bc, 0, none⟩) r.crits.length cc), ex (.slice (some ⟨bo, 0, none⟩) r.bonus.length cb), isl eItem r.malus, isl eTie r.ties, ex (.slice (some ⟨bx, 0, none⟩) r.rounds.length cx), isl eI r.prizes, isl eI r.points, exI .i64 r.best]]) 10 rfl ?_)
          all_goals ((apply WPY_pure 0 rfl (by decide +kernel) rfl (by repeat (first | exact np_ret)) guard_none; (first | (apply g_fld; first | exact WT_field rfl rfl rfl)); exact rfl))
          all_goals ((apply WPY_take 1 rfl (by decide +kernel) rfl (by decide +kernel) (by repeat (first | exact np_ret)) guard_none; (first | (apply g_load; first | exact WT_load (k := 3) rfl rfl rfl rfl)); exact rfl))
          all_goals ((apply WPY_pure 2 rfl (by decide +kernel) rfl (by repeat (first | exact np_ret)) guard_none; (first | exact WT_move rfl); exact rfl))
          all_goals ((first | (apply WPY_pure 3 rfl (by decide +kernel) rfl (by repeat (first | exact np_ret)) guard_none; (first | (apply g_conv; first | exact WT_conv rfl rfl rfl)); exact rfl)))
          all_goals ((apply WPY_pure 4 rfl (by decide +kernel) rfl (by repeat (first | exact np_ret)) guard_none; (first | (apply g_fld; first | exact WT_field rfl rfl rfl)); exact rfl))
          all_goals ((apply WPY_take 5 rfl (by decide +kernel) rfl (by decide +kernel) (by repeat (first | exact np_ret)) guard_none; (first | (apply g_load; first | exact WT_load (k := 3) rfl rfl rfl rfl)); exact rfl))
          all_goals ((apply WPY_pure 6 rfl (by decide +kernel) rfl (by repeat (first | exact np_ret)) guard_none; (first | (apply g_call; first | exact WT_lenv rfl rfl)); exact rfl))
          all_goals ((apply WPY_pure 7 rfl (by decide +kernel) rfl (by repeat (first | exact np_ret)) guard_none; (first | (apply g_bin; first | exact WT_rem rfl rfl)); exact rfl))
          all_goals ((apply WPY_pure 8 rfl (by decide +kernel) rfl (by repeat (first | exact np_ret)) guard_none; (first | (apply g_index; first | exact WT_indexo rfl rfl rfl)); exact rfl))
          all_goals ((apply WPY_pure 9 rfl (by decide +kernel) rfl (by repeat (first | exact np_ret)) guard_none; (first | exact WT_assign rfl); exact rfl))
          all_goals (refine WPY_done (by decide +kernel) ?_)
          all_goals exact cut_here () trivial (Leads_env (by repeat (first | exact sub_nil | refine sub_cons rfl ?_)) (List.Sublist.refl _))
        clear hi hj
        refine WP_cut (fun x : RulesD => ([(3, ex (.pointer (some ⟨b3, 0, none⟩)))], [row bx 45 (cx * 13) (x.rounds.flatMap (roundV kk)), row bc 48 (cc * 7) (x.crits.flatMap critV), row b3 28 9 [exT x.name, ex (.slice (some ⟨bc, 0, none⟩) r.crits.length cc), isl eItem x.bonus, isl eItem x.malus, isl eTie x.ties, ex (.slice (some ⟨bx, 0, none⟩) r.rounds.length cx), isl eI x.prizes, isl eI x.points, exI .i64 x.best], Tab])) (fun x => RulesD.Refused freeF r x) ?_ fun x hx => hend x hx
        (repeat' (first | (apply at_region 15; refine Stop.out ?_) | refine WP_seq ?_ | refine WP_region ?_ | refine WPL_nil ?_ | (apply WPL_t; (first | exact WT_move rfl | exact WT_assign rfl | (apply g_load; first | exact WT_load (k := 3) rfl rfl rfl rfl) | (apply g_fld; first | exact WT_field rfl rfl rfl) | (apply g_bin; first | exact WT_eql rfl rfl | exact WT_rem rfl rfl) | (apply g_call; first | exact WT_lenv rfl rfl)); exact rfl) | refine WP_block ?_ | refine WP_skip ?_ | (refine WP_cond rfl (fun hb => ?_) (fun hb => ?_) <;> (repeat (first | replace hb := dec_t hb | replace hb := dec_f hb)) <;> (try (exfalso; first | omega)))))
        all_goals (try (exfalso; first | contradiction | omega))
        refine ⟨?_⟩
        have hlB : 0 + at_ % r.bonus.length * 3 + 2 < (r.bonus.flatMap itemV).length := by
          rw [length_flat (fs := itemV) (s := 3) (fun _ => rfl)]; omega
        (refine WP_drawl 10 rfl ?_)
        all_goals ((apply WPY_pure 0 rfl (by decide +kernel) rfl (by repeat (first | exact np_ret)) guard_none; (first | (apply g_fld; first | exact WT_field rfl rfl rfl)); exact rfl))
        all_goals ((apply WPY_take 1 rfl (by decide +kernel) rfl (by decide +kernel) (by repeat (first | exact np_ret)) guard_none; (first | (apply g_load; first | exact WT_load (k := 3) rfl rfl rfl rfl)); exact rfl))
        all_goals ((apply WPY_pure 2 rfl (by decide +kernel) rfl (by repeat (first | exact np_ret)) guard_none; (first | exact WT_move rfl); exact rfl))
        all_goals ((first | (apply WPY_pure 3 rfl (by decide +kernel) rfl (by repeat (first | exact np_ret)) guard_none; (first | (apply g_conv; first | exact WT_conv rfl rfl rfl)); exact rfl)))
        all_goals ((apply WPY_pure 4 rfl (by decide +kernel) rfl (by repeat (first | exact np_ret)) guard_none; (first | (apply g_fld; first | exact WT_field rfl rfl rfl)); exact rfl))
        all_goals ((apply WPY_take 5 rfl (by decide +kernel) rfl (by decide +kernel) (by repeat (first | exact np_ret)) guard_none; (first | (apply g_load; first | exact WT_load (k := 3) rfl rfl rfl rfl)); exact rfl))
        all_goals ((apply WPY_pure 6 rfl (by decide +kernel) rfl (by repeat (first | exact np_ret)) guard_none; (first | (apply g_call; first | exact WT_lenv rfl rfl)); exact rfl))
        all_goals ((apply WPY_pure 7 rfl (by decide +kernel) rfl (by repeat (first | exact np_ret)) guard_none; (first | (apply g_bin; first | exact WT_rem rfl rfl)); exact rfl))
        all_goals ((apply WPY_pure 8 rfl (by decide +kernel) rfl (by repeat (first | exact np_ret)) guard_none; (first | (apply g_index; first | exact WT_indexo rfl rfl rfl)); exact rfl))
        all_goals ((apply WPY_pure 9 rfl (by decide +kernel) rfl (by repeat (first | exact np_ret)) guard_none; (first | (apply g_fld; first | exact WT_field rfl rfl rfl)); exact rfl))
        all_goals (first | (apply WPY_one 10; exact (by decide +kernel); exact rfl; exact guard_none; exact (fun h => absurd h (by decide)); first | (apply g_store; first | refine WO_store1 (k := 0) (l0 := []) rfl rfl rfl ?_)))
        all_goals (refine WPY_done (by decide +kernel) ?_)
        rw [show (r.bonus.flatMap itemV).set (0 + at_ % r.bonus.length * 3 + 2) (exI .i64 101) = (r.bonus.set (at_ % r.bonus.length) { r.bonus[at_ % r.bonus.length] with most := 101 }).flatMap itemV by
          rw [Nat.zero_add]; exact flat_set1 (fs := itemV) (s := 3) (fun _ => rfl) _ _ ho 2 (by decide) _ _ rfl]
        refine cut_hereB { r with bonus := r.bonus.set (at_ % r.bonus.length) { r.bonus[at_ % r.bonus.length] with most := 101 } } (RulesD.lim_bonus hc hf14 ho rfl (by unfold ItemD.fine; exact decide_eq_false (by rintro ⟨-, -, -, h4⟩; exact absurd (show (101 : Int) ≤ 100 from h4) (by decide)))) ?_
        refine Leads_row_vec (k := 0) (sz := 3) (n := r.bonus.length) (c := cb) rfl rfl (by rw [length_flat (fs := itemV) (s := 3) (fun _ => rfl), List.length_set]) (by decide) hco ?_
        exact Leads.trans (Leads_fcell (j := 0) (k := 2) (i := 2) (E := eItem) (fs := itemV) (r.bonus.set (at_ % r.bonus.length) { r.bonus[at_ % r.bonus.length] with most := 101 }) rfl rfl rfl (by simp) rfl rfl (hby := by show r.bonus.length * 32 ≤ _; omega)) (Leads_env (by repeat (first | exact sub_nil | refine sub_cons rfl ?_)) (List.Sublist.refl _))
      · refine WP_leads (Leads_fcell (j := 0) (k := 2) (i := 2) (E := eItem) (fs := itemV) r.bonus rfl rfl rfl rfl rfl rfl (hby := by show r.bonus.length * 32 ≤ _; omega)) ?_
        refine WP_leads (env' := [(1, exI .u8 (at_ : Int)), (2, exI .u8 (turn : Int)), (3, ex (.pointer (some ⟨b3, 0, none⟩)))]) (loc' := [row bx 45 (cx * 13) (r.rounds.flatMap (roundV kk)), row bc 48 (cc * 7) (r.crits.flatMap critV), row b3 28 9 [exT r.name, ex (.slice (some ⟨bc, 0, none⟩) r.crits.length cc), isl eItem r.bonus, isl eItem r.malus, isl eTie r.ties, ex (.slice (some ⟨bx, 0, none⟩) r.rounds.length cx), isl eI r.prizes, isl eI r.points, exI .i64 r.best], Tab]) (Leads_env (by repeat (first | exact sub_nil | refine sub_cons rfl ?_)) (List.Sublist.refl _)) ?_
        refine WP_cutR 10 (fun _ : Unit => ([(1, exI .u8 (at_ : Int)), (2, exI .u8 (turn : Int)), (3, ex (.pointer (some ⟨b3, 0, none⟩))), (7, ex (.pointer (some ⟨bc, 0 + (at_ % r.crits.length) * 7, none⟩)))], [row bx 45 (cx * 13) (r.rounds.flatMap (roundV kk)), row bc 48 (cc * 7) (r.crits.flatMap critV), row b3 28 9 [exT r.name, ex (.slice (some ⟨bc, 0, none⟩) r.crits.length cc), isl eItem r.bonus, isl eItem r.malus, isl eTie r.ties, ex (.slice (some ⟨bx, 0, none⟩) r.rounds.length cx), isl eI r.prizes, isl eI r.points, exI .i64 r.best], Tab])) (fun _ => True) ?_ fun _ _ => ?_
        · skip
          (refine WP_draw ([row b3 28 9 [exT r.name, ex (.slice (some ⟨bc, 0, none⟩) r.crits.length cc), isl eItem r.bonus, isl eItem r.malus, isl eTie r.ties, ex (.slice (some ⟨bx, 0, none⟩) r.rounds.length cx), isl eI r.prizes, isl eI r.points, exI .i64 r.best]]) 10 rfl ?_)
          all_goals ((apply WPY_pure 0 rfl (by decide +kernel) rfl (by repeat (first | exact np_ret)) guard_none; (first | (apply g_fld; first | exact WT_field rfl rfl rfl)); exact rfl))
          all_goals ((apply WPY_take 1 rfl (by decide +kernel) rfl (by decide +kernel) (by repeat (first | exact np_ret)) guard_none; (first | (apply g_load; first | exact WT_load (k := 2) rfl rfl rfl rfl)); exact rfl))
          all_goals ((apply WPY_pure 2 rfl (by decide +kernel) rfl (by repeat (first | exact np_ret)) guard_none; (first | exact WT_move rfl); exact rfl))
          all_goals ((first | (apply WPY_pure 3 rfl (by decide +kernel) rfl (by repeat (first | exact np_ret)) guard_none; (first | (apply g_conv; first | exact WT_conv rfl rfl rfl)); exact rfl)))
          all_goals ((apply WPY_pure 4 rfl (by decide +kernel) rfl (by repeat (first | exact np_ret)) guard_none; (first | (apply g_fld; first | exact WT_field rfl rfl rfl)); exact rfl))
          all_goals ((apply WPY_take 5 rfl (by decide +kernel) rfl (by decide +kernel) (by repeat (first | exact np_ret)) guard_none; (first | (apply g_load; first | exact WT_load (k := 2) rfl rfl rfl rfl)); exact rfl))
          all_goals ((apply WPY_pure 6 rfl (by decide +kernel) rfl (by repeat (first | exact np_ret)) guard_none; (first | (apply g_call; first | exact WT_lenv rfl rfl)); exact rfl))
          all_goals ((apply WPY_pure 7 rfl (by decide +kernel) rfl (by repeat (first | exact np_ret)) guard_none; (first | (apply g_bin; first | exact WT_rem rfl rfl)); exact rfl))
          all_goals ((apply WPY_pure 8 rfl (by decide +kernel) rfl (by repeat (first | exact np_ret)) guard_none; (first | (apply g_index; first | exact WT_indexo rfl rfl rfl)); exact rfl))
          all_goals ((apply WPY_pure 9 rfl (by decide +kernel) rfl (by repeat (first | exact np_ret)) guard_none; (first | exact WT_assign rfl); exact rfl))
          all_goals (refine WPY_done (by decide +kernel) ?_)
          all_goals exact cut_here () trivial (Leads_env (by repeat (first | exact sub_nil | refine sub_cons rfl ?_)) (List.Sublist.refl _))
        refine WP_cutR 11 (fun _ : Unit => ([(2, exI .u8 (turn : Int)), (3, ex (.pointer (some ⟨b3, 0, none⟩))), (7, ex (.pointer (some ⟨bc, 0 + (at_ % r.crits.length) * 7, none⟩))), (8, ex (.pointer (some ⟨bx, 0 + (at_ % r.rounds.length) * 13, none⟩)))], [row bx 45 (cx * 13) (r.rounds.flatMap (roundV kk)), row bc 48 (cc * 7) (r.crits.flatMap critV), row b3 28 9 [exT r.name, ex (.slice (some ⟨bc, 0, none⟩) r.crits.length cc), isl eItem r.bonus, isl eItem r.malus, isl eTie r.ties, ex (.slice (some ⟨bx, 0, none⟩) r.rounds.length cx), isl eI r.prizes, isl eI r.points, exI .i64 r.best], Tab])) (fun _ => True) ?_ fun _ _ => ?_
        · skip
          (refine WP_draw ([row b3 28 9 [exT r.name, ex (.slice (some ⟨bc, 0, none⟩) r.crits.length cc), isl eItem r.bonus, isl eItem r.malus, isl eTie r.ties, ex (.slice (some ⟨bx, 0, none⟩) r.rounds.length cx), isl eI r.prizes, isl eI r.points, exI .i64 r.best]]) 10 rfl ?_)
          all_goals ((apply WPY_pure 0 rfl (by decide +kernel) rfl (by repeat (first | exact np_ret)) guard_none; (first | (apply g_fld; first | exact WT_field rfl rfl rfl)); exact rfl))
          all_goals ((apply WPY_take 1 rfl (by decide +kernel) rfl (by decide +kernel) (by repeat (first | exact np_ret)) guard_none; (first | (apply g_load; first | exact WT_load (k := 2) rfl rfl rfl rfl)); exact rfl))
          all_goals ((apply WPY_pure 2 rfl (by decide +kernel) rfl (by repeat (first | exact np_ret)) guard_none; (first | exact WT_move rfl); exact rfl))
          all_goals ((first | (apply WPY_pure 3 rfl (by decide +kernel) rfl (by repeat (first | exact np_ret)) guard_none; (first | (apply g_conv; first | exact WT_conv rfl rfl rfl)); exact rfl)))
          all_goals ((apply WPY_pure 4 rfl (by decide +kernel) rfl (by repeat (first | exact np_ret)) guard_none; (first | (apply g_fld; first | exact WT_field rfl rfl rfl)); exact rfl))
          all_goals ((apply WPY_take 5 rfl (by decide +kernel) rfl (by decide +kernel) (by repeat (first | exact np_ret)) guard_none; (first | (apply g_load; first | exact WT_load (k := 2) rfl rfl rfl rfl)); exact rfl))
          all_goals ((apply WPY_pure 6 rfl (by decide +kernel) rfl (by repeat (first | exact np_ret)) guard_none; (first | (apply g_call; first | exact WT_lenv rfl rfl)); exact rfl))
          all_goals ((apply WPY_pure 7 rfl (by decide +kernel) rfl (by repeat (first | exact np_ret)) guard_none; (first | (apply g_bin; first | exact WT_rem rfl rfl)); exact rfl))
          all_goals ((apply WPY_pure 8 rfl (by decide +kernel) rfl (by repeat (first | exact np_ret)) guard_none; (first | (apply g_index; first | exact WT_indexo rfl rfl rfl)); exact rfl))
          all_goals ((apply WPY_pure 9 rfl (by decide +kernel) rfl (by repeat (first | exact np_ret)) guard_none; (first | exact WT_assign rfl); exact rfl))
          all_goals (refine WPY_done (by decide +kernel) ?_)
          all_goals exact cut_here () trivial (Leads_env (by repeat (first | exact sub_nil | refine sub_cons rfl ?_)) (List.Sublist.refl _))
        generalize at_ % r.crits.length = i at hi ⊢
        generalize at_ % r.rounds.length = j at hj ⊢
        obtain ⟨hg1, hg2, hg3, hg4⟩ := RulesD.crit_facts hc hi
        obtain ⟨hg5, hg6⟩ := RulesD.round_facts hc hj
        have hS : ∀ (f : Nat) (p : SP) (x : Crit), f < 7 → (critV r.crits[i]).set f p = critV x → (r.crits.flatMap critV).set (0 + i * 7 + f) p = (r.crits.set i x).flatMap critV := fun f p x h1 h2 => by
          rw [Nat.zero_add]; exact flat_set1 (fs := critV) (s := 7) (fun _ => rfl) _ _ hi _ h1 _ _ h2
        have hT : ∀ (f : Nat) (p : SP) (x : RoundD), f < 13 → (roundV kk r.rounds[j]).set f p = roundV kk x → (r.rounds.flatMap (roundV kk)).set (0 + j * 13 + f) p = (r.rounds.set j x).flatMap (roundV kk) := fun f p x h1 h2 => by
          rw [Nat.zero_add]; exact flat_set1 (fs := roundV kk) (s := 13) (fun _ => rfl) _ _ hj _ h1 _ _ h2
        have hlC : 0 + i * 7 + 6 < (r.crits.flatMap critV).length := by
          rw [length_flat (fs := critV) (s := 7) (fun _ => rfl)]; omega
        have hlR : 0 + j * 13 + 12 < (r.rounds.flatMap (roundV kk)).length := by
          rw [length_flat (fs := roundV kk) (s := 13) (fun _ => rfl)]; omega
        have hG1 : (r.crits.flatMap critV)[0 + i * 7 + 1]? = some (exI .i64 r.crits[i].low) := flat_get (fs := critV) (s := 7) (fun _ => rfl) _ _ hi 1 (by decide) _ rfl
        have hG2 : (r.crits.flatMap critV)[0 + i * 7 + 2]? = some (exI .i64 r.crits[i].high) := flat_get (fs := critV) (s := 7) (fun _ => rfl) _ _ hi 2 (by decide) _ rfl
        have hG3 : (r.rounds.flatMap (roundV kk))[0 + j * 13 + 1]? = some (exI .i64 r.rounds[j].panel) := flat_get (fs := roundV kk) (s := 13) (fun _ => rfl) _ _ hj 1 (by decide) _ rfl
        refine WP_cut (fun x : RulesD => ([(3, ex (.pointer (some ⟨b3, 0, none⟩)))], [row bx 45 (cx * 13) (x.rounds.flatMap (roundV kk)), row bc 48 (cc * 7) (x.crits.flatMap critV), row b3 28 9 [exT x.name, ex (.slice (some ⟨bc, 0, none⟩) r.crits.length cc), isl eItem x.bonus, isl eItem x.malus, isl eTie x.ties, ex (.slice (some ⟨bx, 0, none⟩) r.rounds.length cx), isl eI x.prizes, isl eI x.points, exI .i64 x.best], Tab])) (fun x => RulesD.Refused freeF r x) ?_ fun x hx => hend x hx
        have hS2 : ∀ (y x : Crit) (p : SP), (critV y).set 4 p = critV x → ((r.crits.set i y).flatMap critV).set (0 + i * 7 + 4) p = (r.crits.set i x).flatMap critV := fun y x p h => by
          rw [Nat.zero_add, flat_set1 (fs := critV) (s := 7) (fun _ => rfl) (r.crits.set i y) i (by simpa using hi) 4 (by decide) p x (by rw [List.getElem_set_self]; exact h), List.set_set]
        (repeat' (first | (apply at_region 25; refine Stop.out ?_) | (apply at_region 30; refine Stop.out ?_) | (apply at_store; refine WPL_vv (k := 1) rfl (by omega) ?_; intro _ _ hv; subst hv) | refine WP_seq ?_ | refine WP_region ?_ | refine WPL_nil ?_ | (apply WPL_t; (first | exact WT_move rfl | exact WT_assign rfl | (apply g_load; first | exact WT_load (k := 2) rfl rfl rfl rfl | exact WT_load (k := 3) rfl rfl rfl rfl | exact WT_load (k := 0) rfl rfl (by assumption) rfl | exact WT_load (k := 1) rfl rfl (by assumption) rfl) | (apply g_fld; first | exact WT_field rfl rfl rfl) | (apply g_bin; first | exact WT_eql rfl rfl | exact WT_add rfl rfl | exact WT_rem rfl rfl | exact WT_quoz rfl rfl) | (apply g_call; first | exact WT_len rfl rfl) | (apply g_nilck; first | exact WT_nilck rfl)); exact rfl) | refine WP_block ?_ | refine WP_ret ?_ | (apply WPL_op0; exact rfl; first | (apply g_store; first | refine WO_store (k := 2) (l0 := []) rfl rfl rfl ?_ | refine WO_store (k := 4) (l0 := []) rfl rfl rfl ?_ | refine WO_store1 (k := 0) (l0 := []) rfl rfl rfl ?_ | refine WO_store1 (k := 1) (l0 := []) rfl rfl rfl ?_) | (apply g_append; (first | (refine WO_append_row (k := 0) (l0 := []) rfl rfl rfl rfl (by first | exact Src_isl rfl) rfl ?_) | (refine WO_append (k := 1) (l0 := []) rfl rfl (by first | exact Src_rowW (k := 0) rfl rfl) rfl ?_)); intro _) | (apply g_bslice; (first | refine WO_bslice1 rfl rfl ?_ | refine WO_bslice0 rfl ?_); intro _)) | (refine WP_cond rfl (fun hb => ?_) (fun hb => ?_) <;> (repeat (first | replace hb := dec_t hb | replace hb := dec_f hb)) <;> (try (exfalso; first | omega)))))
        · rw [hS 1 _ { r.crits[i] with low := -1 } (by decide) rfl]
          exact cut_hereB { r with crits := r.crits.set i { r.crits[i] with low := -1 } } (RulesD.lim_crit hc hf14 hi rfl (by unfold Crit.fine; exact decide_eq_false (by rintro ⟨h1, h2, h3, h4, -, h6, h7, h8, -⟩; (try dsimp only at h1 h2 h3 h4 h6 h7 h8); omega))) (Leads_env (by repeat (first | exact sub_nil | refine sub_cons rfl ?_)) (List.Sublist.refl _))
        · rw [hS 2 _ { r.crits[i] with high := r.crits[i].low } (by decide) rfl]
          exact cut_hereB { r with crits := r.crits.set i { r.crits[i] with high := r.crits[i].low } } (RulesD.lim_crit hc hf14 hi rfl (by unfold Crit.fine; exact decide_eq_false (by rintro ⟨h1, h2, h3, h4, -, h6, h7, h8, -⟩; (try dsimp only at h1 h2 h3 h4 h6 h7 h8); omega))) (Leads_env (by repeat (first | exact sub_nil | refine sub_cons rfl ?_)) (List.Sublist.refl _))
        · rw [hS 2 _ { r.crits[i] with high := 1001 } (by decide) rfl]
          exact cut_hereB { r with crits := r.crits.set i { r.crits[i] with high := 1001 } } (RulesD.lim_crit hc hf14 hi rfl (by unfold Crit.fine; exact decide_eq_false (by rintro ⟨h1, h2, h3, h4, -, h6, h7, h8, -⟩; (try dsimp only at h1 h2 h3 h4 h6 h7 h8); omega))) (Leads_env (by repeat (first | exact sub_nil | refine sub_cons rfl ?_)) (List.Sublist.refl _))
        · rw [hS 3 _ { r.crits[i] with step := 0 } (by decide) rfl]
          exact cut_hereB { r with crits := r.crits.set i { r.crits[i] with step := 0 } } (RulesD.lim_crit hc hf14 hi rfl (by unfold Crit.fine; exact decide_eq_false (by rintro ⟨h1, h2, h3, h4, -, h6, h7, h8, -⟩; (try dsimp only at h1 h2 h3 h4 h6 h7 h8); omega))) (Leads_env (by repeat (first | exact sub_nil | refine sub_cons rfl ?_)) (List.Sublist.refl _))
        · refine ⟨?_⟩
          (refine WP_drawl 13 rfl ?_)
          all_goals ((apply WPY_pure 0 rfl (by decide +kernel) rfl (by repeat (first | exact np_ret)) guard_none; (first | exact WT_move rfl); exact rfl))
          all_goals ((apply WPY_pure 1 rfl (by decide +kernel) rfl (by repeat (first | exact np_ret)) guard_none; (first | exact WT_move rfl); exact rfl))
          all_goals ((apply WPY_pure 2 rfl (by decide +kernel) rfl (by repeat (first | exact np_ret)) guard_none; (first | (apply g_nilck; first | exact WT_nilck rfl)); exact rfl))
          all_goals ((apply WPY_pure 3 rfl (by decide +kernel) rfl (by repeat (first | exact np_ret)) guard_none; (first | (apply g_fld; first | exact WT_field rfl rfl rfl)); exact rfl))
          all_goals ((apply WPY_take 4 rfl (by decide +kernel) rfl (by decide +kernel) (by repeat (first | exact np_ret)) guard_none; (first | (apply g_load; first | exact WT_load (k := 1) rfl rfl (by assumption) rfl)); exact rfl))
          all_goals ((apply WPY_pure 5 rfl (by decide +kernel) rfl (by repeat (first | exact np_ret)) guard_none; (first | exact WT_move rfl); exact rfl))
          all_goals ((apply WPY_pure 6 rfl (by decide +kernel) rfl (by repeat (first | exact np_ret)) guard_none; (first | (apply g_nilck; first | exact WT_nilck rfl)); exact rfl))
          all_goals ((apply WPY_pure 7 rfl (by decide +kernel) rfl (by repeat (first | exact np_ret)) guard_none; (first | (apply g_fld; first | exact WT_field rfl rfl rfl)); exact rfl))
          all_goals ((apply WPY_take 8 rfl (by decide +kernel) rfl (by decide +kernel) (by repeat (first | exact np_ret)) guard_none; (first | (apply g_load; first | exact WT_load (k := 1) rfl rfl (by assumption) rfl)); exact rfl))
          all_goals ((apply WPY_pure 9 rfl (by decide +kernel) rfl (by repeat (first | exact np_ret)) guard_none; (first | (apply g_bin; first | exact WT_sub rfl rfl)); exact rfl))
          all_goals ((apply WPY_pure 10 rfl (by decide +kernel) rfl (by repeat (first | exact np_ret)) guard_none; (first | (apply g_bin; first | exact WT_add rfl rfl)); exact rfl))
          all_goals ((apply WPY_pure 11 rfl (by decide +kernel) rfl (by repeat (first | exact np_ret)) guard_none; (first | (apply g_nilck; first | exact WT_nilck rfl)); exact rfl))
          all_goals ((apply WPY_pure 12 rfl (by decide +kernel) rfl (by repeat (first | exact np_ret)) guard_none; (first | (apply g_fld; first | exact WT_field rfl rfl rfl)); exact rfl))
          all_goals (first | (apply WPY_one 13; exact (by decide +kernel); exact rfl; exact guard_none; exact (fun h => absurd h (by decide)); first | (apply g_store; first | refine WO_store1 (k := 1) (l0 := []) rfl rfl rfl ?_)))
          all_goals (refine WPY_done (by decide +kernel) ?_)
          rw [hS 3 _ { r.crits[i] with step := r.crits[i].high - r.crits[i].low + 1 } (by decide) rfl]
          exact cut_hereB { r with crits := r.crits.set i { r.crits[i] with step := r.crits[i].high - r.crits[i].low + 1 } } (RulesD.lim_crit hc hf14 hi rfl (by
            unfold Crit.fine
            refine decide_eq_false ?_
            rintro ⟨-, h2, -, -, h5, -⟩
            have h5 : (r.crits[i].high - r.crits[i].low).tmod (r.crits[i].high - r.crits[i].low + 1) = 0 := h5
            rw [Int.tmod_eq_of_lt (by omega) (by omega)] at h5
            omega)) (Leads_env (by repeat (first | exact sub_nil | refine sub_cons rfl ?_)) (List.Sublist.refl _))
        · rw [hS 4 _ { r.crits[i] with how := 4 } (by decide) rfl]
          exact cut_hereB { r with crits := r.crits.set i { r.crits[i] with how := 4 } } (RulesD.lim_crit hc hf14 hi rfl (by unfold Crit.fine; exact decide_eq_false (by rintro ⟨h1, h2, h3, h4, -, h6, h7, h8, -⟩; (try dsimp only at h1 h2 h3 h4 h6 h7 h8); omega))) (Leads_env (by repeat (first | exact sub_nil | refine sub_cons rfl ?_)) (List.Sublist.refl _))
        · refine ⟨?_⟩
          rw [hS 5 _ { r.crits[i] with trim := (((r.rounds[j].panel + 1).toNat / 2 : Nat) : Int) } (by decide) rfl]
          have hlD : ∀ y, 0 + i * 7 + 4 < ((r.crits.set i y).flatMap critV).length := fun y => by
            rw [length_flat (fs := critV) (s := 7) (fun _ => rfl), List.length_set]; omega
          have hlD := hlD { r.crits[i] with trim := (((r.rounds[j].panel + 1).toNat / 2 : Nat) : Int) }
          (repeat' (first | refine WP_region ?_ | refine WPL_nil ?_ | (apply WPL_t; (first | exact WT_move rfl | (apply g_fld; first | exact WT_field rfl rfl rfl) | (apply g_nilck; first | exact WT_nilck rfl)); exact rfl) | (apply WPL_op0; exact rfl; first | (apply g_store; first | refine WO_store1 (k := 1) (l0 := []) rfl rfl rfl ?_))))
          rw [hS2 { r.crits[i] with trim := (((r.rounds[j].panel + 1).toNat / 2 : Nat) : Int) } { r.crits[i] with trim := (((r.rounds[j].panel + 1).toNat / 2 : Nat) : Int), how := 2 } (exI .i64 2) rfl]
          exact cut_hereB { r with crits := r.crits.set i { r.crits[i] with trim := (((r.rounds[j].panel + 1).toNat / 2 : Nat) : Int), how := 2 } } (RulesD.lim_trim hc hf14 hi hj rfl (by show r.rounds[j].panel ≤ 2 * (((r.rounds[j].panel + 1).toNat / 2 : Nat) : Int); omega)) (Leads_env (by repeat (first | exact sub_nil | refine sub_cons rfl ?_)) (List.Sublist.refl _))
        · rw [hT 1 _ { r.rounds[j] with panel := 0 } (by decide) rfl]
          exact cut_hereB { r with rounds := r.rounds.set j { r.rounds[j] with panel := 0 } } (RulesD.lim_round hc hf14 hj rfl (by exact decide_eq_false (by rintro ⟨h1, h2, h3, h4, h5, h6⟩; (try dsimp only at h1 h2 h3 h4 h5 h6); omega))) (Leads_env (by repeat (first | exact sub_nil | refine sub_cons rfl ?_)) (List.Sublist.refl _))
        · rw [hT 1 _ { r.rounds[j] with panel := 257 } (by decide) rfl]
          exact cut_hereB { r with rounds := r.rounds.set j { r.rounds[j] with panel := 257 } } (RulesD.lim_round hc hf14 hj rfl (by exact decide_eq_false (by rintro ⟨h1, h2, h3, h4, h5, h6⟩; (try dsimp only at h1 h2 h3 h4 h5 h6); omega))) (Leads_env (by repeat (first | exact sub_nil | refine sub_cons rfl ?_)) (List.Sublist.refl _))
        · rw [hT 2 _ { r.rounds[j] with quota := 0 } (by decide) rfl]
          exact cut_hereB { r with rounds := r.rounds.set j { r.rounds[j] with quota := 0 } } (RulesD.lim_round hc hf14 hj rfl (by exact decide_eq_false (by rintro ⟨h1, h2, h3, h4, h5, h6⟩; (try dsimp only at h1 h2 h3 h4 h5 h6); omega))) (Leads_env (by repeat (first | exact sub_nil | refine sub_cons rfl ?_)) (List.Sublist.refl _))
        · rw [hT 3 _ { r.rounds[j] with cut := 0 } (by decide) rfl]
          exact cut_hereB { r with rounds := r.rounds.set j { r.rounds[j] with cut := 0 } } (RulesD.lim_round hc hf14 hj rfl (by exact decide_eq_false (by rintro ⟨h1, h2, h3, h4, h5, h6⟩; (try dsimp only at h1 h2 h3 h4 h5 h6); omega))) (Leads_env (by repeat (first | exact sub_nil | refine sub_cons rfl ?_)) (List.Sublist.refl _))
        · exact cut_hereB { r with best := 65 } (RulesD.lim_best hc hf14) (Leads_env (by repeat (first | exact sub_nil | refine sub_cons rfl ?_)) (List.Sublist.refl _))
        · exact cut_hereB { r with prizes := r.prizes ++ [-1] } (RulesD.lim_prizes hc hf14) (Leads.trans (Leads_fcell (j := 1) (k := 3) (i := 6) (E := eI) (fs := intV) (r.prizes ++ [-1]) rfl rfl (by rw [List.flatMap_append]; rfl) (by simp) rfl rfl (hby := by show _ * 8 ≤ _; omega)) (Leads_env (by repeat (first | exact sub_nil | refine sub_cons rfl ?_)) (.cons _ (.refl _))))
        · exact ⟨.inr rfl, ret1 rfl (.tmp rfl) (List.nil_sublist _) ⟨rfl, rfl⟩⟩
    · unfold rul at *
      refine FnC_enter Tryd.func5 rfl Tryd.ntmps5 rfl fun w0 F0 out => ?_
      (repeat' (first | refine WP_seq ?_ | refine WP_region ?_ | refine WPL_nil ?_ | (apply WPL_t; (first | exact WT_move rfl | exact WT_assign rfl | exact WT_pick (b := false) rfl (fun e => by cases e) (fun _ => rfl) | (apply g_load; first | exact WT_loada2 (k := 0) rfl rfl rfl) | (apply g_un; first | exact WT_not rfl)); exact rfl) | (apply WPL_gt; exact rfl; exact rfl; exact rfl; (first | (apply g_load; first | exact WT_loada2 (k := 0) rfl rfl rfl) | (apply g_bin; first | exact WT_neq rfl rfl)); exact rfl) | refine WP_skip ?_ | refine WP_ret ?_ | refine WP_cond_f rfl ?_ | (apply WPL_op0; exact rfl; first | (apply g_callf; first | (refine WO_callG (.dup 1 rfl rfl .nil) Tryd.func7 rfl sane15_any rfl ?_ (hH := hH_tab2); rintro _ _ ⟨rfl, rfl⟩) | (refine WO_call Tryd.func8 rfl hfw rfl ?_; rintro _ _ ⟨rfl, rfl⟩)) | (apply g_box; refine WO_box rfl ?_; intro _)) | (apply WPL_on0; exact rfl; exact rfl; exact rfl; exact rfl; (apply g_callf; first | (refine WO_callG (.dup 1 rfl rfl .nil) Tryd.func9 rfl hck rfl ?_ (hH := hH_tab2); rintro _ _ ⟨rfl, rfl⟩))) | (refine WP_cond rfl (fun hb => ?_) (fun hb => ?_) <;> (repeat (first | replace hb := dec_t hb | replace hb := dec_f hb | replace hb := not_t hb | replace hb := not_f hb)) <;> (try (exfalso; first | contradiction)))))
      all_goals (try (exfalso; omega))
      exact ⟨.inr rfl, ret1 rfl (.tmp rfl) (List.nil_sublist _) ⟨rfl, rfl⟩⟩
  · have hf' : r.few15 = false := by simpa using hf
    rw [hf'] at hfw
    unfold rul at *
    refine FnC_enter Tryd.func5 rfl Tryd.ntmps5 rfl fun w0 F0 out => ?_
    (repeat' (first | refine WP_seq ?_ | refine WP_region ?_ | refine WPL_nil ?_ | (apply WPL_t; (first | exact WT_move rfl | exact WT_assign rfl | exact WT_pick (b := true) rfl (fun _ => rfl) (fun e => by cases e) | (apply g_load; first | exact WT_loada2 (k := 0) rfl rfl rfl) | (apply g_un; first | exact WT_not rfl)); exact rfl) | (refine WPL_off rfl rfl rfl rfl rfl ?_) | refine WP_skip ?_ | refine WP_ret ?_ | refine WP_cond_t rfl ?_ | refine WP_cond_f rfl ?_ | (apply WPL_op0; exact rfl; first | (apply g_callf; first | (refine WO_callG (.dup 1 rfl rfl .nil) Tryd.func7 rfl sane15_any rfl ?_ (hH := hH_tab2); rintro _ _ ⟨rfl, rfl⟩) | (refine WO_call Tryd.func8 rfl hfw rfl ?_; rintro _ _ ⟨rfl, rfl⟩)) | (apply g_box; refine WO_box rfl ?_; intro _))))
    exact ⟨.inr rfl, ret1 rfl (.tmp rfl) (List.nil_sublist _) ⟨rfl, rfl⟩⟩
end Go.Proofs.YthldagplhklbnaaDoor

/- RulesLimits: the law, for the arguments as they come. -/
namespace Go.Proofs.YthldagplhklbnaaDoor
open Go Go.RowKit Go.Kx Go.Fr
theorem rulesLimits_int (k : Nat) (r : RulesD) (a : Int) (h1 : IntKind.u8.min ≤ a) (h2 : a ≤ IntKind.u8.max) (b : Int) (h3 : IntKind.u8.min ≤ b) (h4 : b ≤ IntKind.u8.max) : FnC Tryd.prog 5 [rul k r, exI .u8 a, exI .u8 b] [Tab] (fun p loc => p = exB true ∧ loc = []) := by
  have h1' : (0 : Int) ≤ a := h1
  have h2' : a ≤ (255 : Int) := h2
  have h3' : (0 : Int) ≤ b := h3
  have h4' : b ≤ (255 : Int) := h4
  obtain ⟨a, rfl⟩ := Int.eq_ofNat_of_zero_le h1'
  obtain ⟨b, rfl⟩ := Int.eq_ofNat_of_zero_le h3'
  exact rulesLimits_any k r a b (by omega) (by omega)
end Go.Proofs.YthldagplhklbnaaDoor
