/- RulesTotal: what is sound has all it needs; the law's own walk. -/
import Derived.Test.YthldagplhklbnaaDoorPart7
-- STRINGS
-- ROWS
-- PRUNEC
namespace Go.Fr
open Go.RowKit Go.Kx
/-- An expression of which all parts are right, and lead to criteria below nc and to rounds below ni. -/
def Ex.okW (nc ni : Int) (x : Ex) : Prop := ∀ z ∈ x.pre, z.node = true ∧ (z.kind = 2 → 0 ≤ z.n ∧ z.n < nc) ∧ (z.kind = 5 → 0 ≤ z.n ∧ z.n < ni)
theorem Ex.okW_self {nc ni : Int} {x : Ex} (h : x.okW nc ni) : x.node = true ∧ (x.kind = 2 → 0 ≤ x.n ∧ x.n < nc) ∧ (x.kind = 5 → 0 ≤ x.n ∧ x.n < ni) := h x (by rw [Ex.pre_l]; exact List.mem_cons_self)
theorem Ex.okW_kid {nc ni : Int} {x : Ex} (h : x.okW nc ni) {y : Ex} (hy : y ∈ x.l) : y.okW nc ni := fun z hz => h z (by rw [Ex.pre_l]; exact List.mem_cons_of_mem _ (List.mem_flatMap.2 ⟨y, hy, hz⟩))
/-- How many parts an expression of a kind has. -/
def partsW (k : Int) : Nat := if k = 8 then 1 else if k = 6 ∨ k = 7 ∨ k = 9 ∨ k = 10 then 2 else if k = 11 then 4 else 0
theorem Ex.node_parts {x : Ex} (h : x.node = true) : (1 ≤ x.kind ∧ x.kind ≤ 11) ∧ x.l.length = partsW x.kind ∧ ((x.kind = 1 ∨ x.kind = 8) → 1 ≤ x.d) := by
  unfold Ex.node at h
  split at h
  · cases h
  · rename_i p num ref hs
    rw [decide_eq_true_iff] at h
    obtain ⟨h1, -, h3⟩ := h
    unfold shapeF at hs
    unfold partsW
    repeat' (split at hs)
    all_goals (first | (cases hs; done) | skip)
    all_goals (simp only [Option.some.injEq, Prod.mk.injEq] at hs; obtain ⟨rfl, rfl, rfl⟩ := hs)
    all_goals (simp only [if_true, if_false, Bool.false_eq_true] at h3)
    all_goals (rename_i hk; subst_vars)
    all_goals (try simp only [hk])
    all_goals (refine ⟨by omega, ?_, fun h => by omega⟩)
    all_goals (first | omega | (simp only [Int.reduceEq, if_false, if_true, or_false, or_true, or_self]; omega) | (simp; omega))
end Go.Fr
namespace Go.Proofs.YthldagplhklbnaaDoor
open Go Go.RowKit Go.Kx Go.Fr
set_option maxHeartbeats 2000000 in
set_option maxRecDepth 100000 in
theorem walkW_any (nc ni : Int) : ∀ (k : Nat) (x : Ex), x.okW nc ni → FnC Tryd.prog 12 [agg (exV k x), exI .i64 nc, exI .i64 ni] [] (fun p loc => p = exB true ∧ loc = []) := by
  intro k
  induction k with
  | zero => intro x _; exact FnC_says (i := 0) rfl Says_ex0 fun h => h.elim
  | succ k ih =>
    intro x hx
    refine FnC_says (i := 0) rfl (Says_agg (i := 4) (p := isl (eEx k) x.l) rfl Says_isl) fun hlen => ?_
    obtain ⟨hlen, -⟩ := hlen
    simp only [maxLen] at hlen
    obtain ⟨hn, h2, h5⟩ := Ex.okW_self hx
    obtain ⟨hkd, hpl, hd⟩ := Ex.node_parts hn
    have hre : ∀ (q : Nat) (h : q < x.l.length), FnC Tryd.prog 12 [agg (exV k x.l[q]), exI .i64 nc, exI .i64 ni] [] (fun p loc => p = exB true ∧ loc = []) := fun q h => ih _ (Ex.okW_kid hx (List.getElem_mem h))
    clear ih hx hn
    show FnC Tryd.prog 12 [agg [exI .i64 x.kind, exT x.name, exI .i64 x.n, exI .i64 x.d, isl (eEx k) x.l], exI .i64 nc, exI .i64 ni] [] _
    refine FnC_enter Tryd.func12 rfl Tryd.ntmps12 rfl fun w0 F0 out => ?_
    unfold partsW at hpl
    (repeat' (first | (apply at_region 1; refine Stop.out ?_) | refine WP_seq ?_ | refine WP_region ?_ | refine WPL_nil ?_ | (apply WPL_t; (first | exact WT_assign rfl); exact rfl) | (apply WPL_op0; exact rfl; first | (apply g_box; refine WO_box rfl ?_; intro _))))
    rename_i b3
    refine ⟨WP_leads (Leads_fp (k := 0) (t := 3) rfl rfl) ?_⟩
    (repeat' (first | (apply cuts_at 2; refine Stop.out ?_) | refine WP_region ?_ | refine WPL_nil ?_ | (apply WPL_t; (first | exact WT_assign rfl); exact rfl)))
    refine ⟨WP_cut (fun _ : Unit => ([(1, exI .i64 nc), (2, exI .i64 ni), (3, fp [exI .i64 x.kind, exT x.name, exI .i64 x.n, exI .i64 x.d, isl (eEx k) x.l]), (7, exI .i64 (x.l.length : Int))], [])) (fun _ => True) ?_ fun _ _ => ?_⟩
    · (repeat' (first | refine WP_seq ?_ | refine WP_region ?_ | refine WPL_nil ?_ | (apply WPL_t; (first | exact WT_move rfl | exact WT_assign rfl | exact WT_pick (b := false) rfl (fun e => by cases e) (fun _ => rfl) | (apply g_load; first | exact WT_loadf rfl rfl) | (apply g_fld; first | exact WT_fieldf rfl rfl rfl) | (apply g_bin; first | exact WT_lss rfl rfl | exact WT_eql rfl rfl)); exact rfl) | (apply WPL_gt; exact rfl; exact rfl; exact rfl; (first | exact WT_move rfl | (apply g_load; first | exact WT_loadf rfl rfl) | (apply g_fld; first | exact WT_fieldf rfl rfl rfl) | (apply g_bin; first | exact WT_geq rfl rfl)); exact rfl) | refine WP_block ?_ | refine WP_skip ?_ | (refine WPL_case rfl rfl (fun hb => ?_) (fun hb => ?_) <;> (repeat (first | replace hb := dec_t hb | replace hb := dec_f hb)) <;> (try (exfalso; first | omega))) | (refine WP_cond rfl (fun hb => ?_) (fun hb => ?_) <;> (repeat (first | replace hb := dec_t hb | replace hb := dec_f hb)) <;> (try (exfalso; first | contradiction | omega)))))
      all_goals (try (exfalso; first | contradiction | omega))
      all_goals (first
        | (have e : x.l.length = 0 := by ((repeat' split at hpl) <;> omega)
           exact cut_here (Q := fun _ _ _ => False) () trivial (Leads.trans (Leads_up (t := 7) (q := exI .i64 (x.l.length : Int)) rfl (by rw [e]; exact Im.refl _)) (Leads_env (by repeat (first | exact sub_nil | refine sub_cons rfl ?_)) (List.nil_sublist _))))
        | (have e : x.l.length = 1 := by ((repeat' split at hpl) <;> omega)
           exact cut_here (Q := fun _ _ _ => False) () trivial (Leads.trans (Leads_up (t := 7) (q := exI .i64 (x.l.length : Int)) rfl (by rw [e]; exact Im.refl _)) (Leads_env (by repeat (first | exact sub_nil | refine sub_cons rfl ?_)) (List.nil_sublist _))))
        | (have e : x.l.length = 2 := by ((repeat' split at hpl) <;> omega)
           exact cut_here (Q := fun _ _ _ => False) () trivial (Leads.trans (Leads_up (t := 7) (q := exI .i64 (x.l.length : Int)) rfl (by rw [e]; exact Im.refl _)) (Leads_env (by repeat (first | exact sub_nil | refine sub_cons rfl ?_)) (List.nil_sublist _))))
        | (have e : x.l.length = 4 := by ((repeat' split at hpl) <;> omega)
           exact cut_here (Q := fun _ _ _ => False) () trivial (Leads.trans (Leads_up (t := 7) (q := exI .i64 (x.l.length : Int)) rfl (by rw [e]; exact Im.refl _)) (Leads_env (by repeat (first | exact sub_nil | refine sub_cons rfl ?_)) (List.nil_sublist _)))))
    clear hpl
    (repeat' (first | refine WP_seq ?_ | refine WP_region ?_ | refine WPL_nil ?_ | (apply WPL_t; (first | exact WT_move rfl | exact WT_assign rfl | exact WT_pick (b := false) rfl (fun e => by cases e) (fun _ => rfl) | (apply g_load; first | exact WT_loadf rfl rfl) | (apply g_fld; first | exact WT_fieldf rfl rfl rfl) | (apply g_bin; first | exact WT_neq rfl rfl) | (apply g_call; first | exact WT_len rfl rfl)); exact rfl) | (refine WPL_off rfl rfl rfl rfl rfl ?_) | (apply WPL_gt; exact rfl; exact rfl; exact rfl; (first | exact WT_move rfl | exact WT_pick (b := true) rfl (fun _ => rfl) (fun e => by cases e) | exact WT_pick (b := false) rfl (fun e => by cases e) (fun _ => rfl) | (apply g_load; first | exact WT_loadf rfl rfl) | (apply g_fld; first | exact WT_fieldf rfl rfl rfl) | (apply g_bin; first | exact WT_lss rfl rfl | exact WT_eql rfl rfl)); exact rfl) | refine WP_block ?_ | refine WP_skip ?_ | refine WP_cond_f rfl ?_ | (refine WPL_case rfl rfl (fun hb => ?_) (fun hb => ?_) <;> (repeat (first | replace hb := dec_t hb | replace hb := dec_f hb | replace hb := not_t hb | replace hb := not_f hb)) <;> (try (exfalso; first | contradiction))) | (refine WP_cond rfl (fun hb => ?_) (fun hb => ?_) <;> (repeat (first | replace hb := dec_t hb | replace hb := dec_f hb)) <;> (try (exfalso; first | omega)))))
    all_goals (try (exfalso; first | contradiction | omega))
    all_goals (refine WP_loop (fun q : Nat => ([(1, exI .i64 nc), (2, exI .i64 ni), (3, fp [exI .i64 x.kind, exT x.name, exI .i64 x.n, exI .i64 x.d, isl (eEx k) x.l]), (8, exI .i64 (q : Int))], [])) (fun q => q ≤ x.l.length) (fun q => x.l.length - q) 0 ?_ (Nat.zero_le _) fun q hq => ?_)
    all_goals (try exact Leads_env (by repeat (first | exact sub_nil | refine sub_cons rfl ?_)) (List.nil_sublist _))
    all_goals (by_cases hlt : q < x.l.length)
    all_goals (first | (have hcall := hre q hlt) | skip)
    all_goals ((repeat' (first | refine WP_seq ?_ | refine WP_region ?_ | refine WPL_nil ?_ | (apply WPL_t; (first | exact WT_move rfl | exact WT_assign rfl | (apply g_load; first | exact WT_loadf rfl rfl | exact WT_loadfa rfl rfl) | (apply g_fld; first | exact WT_fieldf rfl rfl rfl) | (apply g_bin; first | exact WT_lss rfl rfl | exact WT_add rfl rfl) | (apply g_index; first | exact WT_index rfl rfl rfl) | (apply g_call; first | exact WT_len rfl rfl) | (apply g_un; first | exact WT_not rfl)); exact rfl) | refine WP_block ?_ | refine WP_skip ?_ | refine WP_ret ?_ | refine WP_exit ?_ | refine WP_cond_f rfl ?_ | (apply WPL_op0; exact rfl; first | (apply g_callf; first | (refine WO_call Tryd.func12 rfl hcall rfl ?_; rintro _ _ ⟨rfl, rfl⟩))) | (refine WP_cond rfl (fun hb => ?_) (fun hb => ?_) <;> (repeat (first | replace hb := dec_t hb | replace hb := dec_f hb)) <;> (try (exfalso; first | omega))))))
    all_goals (try (exfalso; first | contradiction | omega))
    all_goals (first | exact ⟨q + 1, by omega, by omega, Leads_env (by repeat (first | exact sub_nil | refine sub_cons rfl ?_)) (List.nil_sublist _)⟩ | exact ⟨.inr rfl, ret1 rfl (.tmp rfl) (List.nil_sublist _) ⟨rfl, rfl⟩⟩)
end Go.Proofs.YthldagplhklbnaaDoor

/- RulesTotal: the plain law. No program in sight. -/
namespace Go.Fr
open Go.RowKit Go.Kx
namespace Ex
mutual
theorem pre_all {Q : Ex → Prop} (hQ : ∀ x, Q x → ∀ y ∈ x.l, Q y) : ∀ x : Ex, Q x → ∀ z ∈ x.pre, Q z
  | mk k s n d l, h, z, hz => by
    rw [pre, List.mem_cons] at hz
    rcases hz with rfl | hz
    · exact h
    · exact pres_all hQ l (fun y hy => hQ _ h y hy) z hz
theorem pres_all {Q : Ex → Prop} (hQ : ∀ x, Q x → ∀ y ∈ x.l, Q y) : ∀ l : List Ex, (∀ y ∈ l, Q y) → ∀ z ∈ pres l, Q z
  | [], _, z, hz => by cases hz
  | x :: xs, h, z, hz => by
    rw [pres, List.mem_append] at hz
    rcases hz with hz | hz
    · exact pre_all hQ x (h x List.mem_cons_self) z hz
    · exact pres_all hQ xs (fun y hy => h y (List.mem_cons_of_mem _ hy)) z hz
end
theorem res_kid {l0 l3 : List (List UInt8)} (x : Ex) (h : x.res l0 l3 = x ∧ x.ok l0 l3 = true) : ∀ y ∈ x.l, y.res l0 l3 = y ∧ y.ok l0 l3 = true := by
  obtain ⟨h1, h2⟩ := h
  have e : x.l.map (res l0 l3) = x.l := by
    have := congrArg Ex.l h1
    rw [res_l] at this
    exact this
  rw [ok_l, Bool.and_eq_true] at h2
  exact fun y hy => ⟨map_fix e y hy, List.all_eq_true.1 h2.2 y hy⟩
theorem res_self {l0 l3 : List (List UInt8)} (x : Ex) (h : x.res l0 l3 = x ∧ x.ok l0 l3 = true) : (x.kind = 2 → 0 ≤ x.n ∧ x.n < l0.length) ∧ (x.kind = 5 → 0 ≤ x.n ∧ x.n < l3.length) := by
  obtain ⟨h1, h2⟩ := h
  have e : x.n = refN l0 l3 x.kind x.name x.n := by
    have := (congrArg Ex.n h1).symm
    rw [res_l] at this
    exact this
  rw [ok_l, Bool.and_eq_true] at h2
  have h3 := h2.1
  unfold refN at e
  unfold refOk at h3
  refine ⟨fun hk => ?_, fun hk => ?_⟩
  · rw [if_pos hk] at e h3
    have := of_decide_eq_true h3
    rw [e]; exact ⟨this, indexF_top⟩
  · rw [if_neg (by omega), if_pos hk] at e h3
    have := of_decide_eq_true h3
    rw [e]; exact ⟨this, indexF_top⟩
end Ex
theorem roundsBad_get {L : List (List KeyD)} : ∀ (ys : List RoundD) (j : Nat), RulesD.roundsBad L j ys = false → ∀ (i : Nat) (h : i < ys.length), RulesD.roundBad L (j + i) ys[i] = false
  | [], _, _, i, h => by cases h
  | y :: ys, j, hb, i, h => by
    rw [RulesD.roundsBad, Bool.or_eq_false_iff] at hb
    cases i with
    | zero => exact hb.1
    | succ i =>
      have := roundsBad_get ys (j + 1) hb.2 i (by simpa using h)
      rw [show j + 1 + i = j + (i + 1) by omega] at this
      exact this
/-- What a key of a sound declaration may be. -/
def keyT (nc : Int) (k : KeyD) : Prop := (k.kind = 1 → 0 ≤ k.n ∧ k.n < nc) ∧ (k.kind = 2 → 0 ≤ k.n)
structure RulesD.Total (r : RulesD) (L : List (List KeyD)) : Prop where
  some : 0 < r.crits.length ∧ 0 < r.rounds.length
  crit : ∀ c ∈ r.crits, 0 ≤ c.trim ∧ 0 ≤ c.low ∧ c.low < c.high ∧ 1 ≤ c.step
  trim : ∀ y ∈ r.rounds, 1 ≤ y.panel ∧ y.panel ≤ 256 ∧ ∀ c ∈ r.crits, 2 * c.trim < y.panel
  score : ∀ (i : Nat) (h : i < r.rounds.length), r.rounds[i].places = false → r.rounds[i].score.okW r.crits.length i
  tie : ∀ y ∈ r.rounds, -1 ≤ y.tieNo ∧ y.tieNo < r.ties.length
  keys : ∀ (i : Nat) (h : i < r.rounds.length) (h2 : r.rounds[i].tieNo.toNat < L.length), 0 ≤ r.rounds[i].tieNo → ∀ k ∈ L[r.rounds[i].tieNo.toNat], (k.kind = 1 → 0 ≤ k.n ∧ k.n < r.crits.length) ∧ (k.kind = 2 → 0 ≤ k.n ∧ k.n < i)
theorem RulesD.total_of {fr : List UInt8 → Bool} {r : RulesD} (h : (r.check15 fr).2 = 0) : r.Total (r.check15 fr).1 := by
  obtain ⟨hs, hfi, hE, hL, hx, hbad⟩ := RulesD.exp_of h
  have hf := hfi
  unfold RulesD.fine at hf
  simp only [Bool.and_eq_true, decide_eq_true_eq] at hf
  obtain ⟨hne, hcr, -, -, -, -, -, hti, hro⟩ := hf
  have hyf : ∀ y ∈ r.rounds, y.fine r.crits = true := fun y hy => List.all_eq_true.1 hro y hy
  have hrf : ∀ y ∈ r.rounds, y.score.res r.n0 r.n3 = y.score ∧ y.score.ok r.n0 r.n3 = true := fun y hy => by
    have h1 : r.roundN y = y := map_fix (congrArg RulesD.rounds hs.fix) y hy
    have h4 := hs.allOk
    unfold RulesD.allOk at h4
    rw [Bool.and_eq_true] at h4
    have h6 := List.all_eq_true.1 h4.2 y hy
    unfold RulesD.roundOk at h6
    rw [Bool.and_eq_true] at h6
    exact ⟨congrArg RoundD.score h1, h6.1⟩
  have hn0 : r.n0.length = r.crits.length := by simp [RulesD.n0]
  have hQ : ∀ i, ∀ k ∈ keysAt r.ties i, k.kind ≠ 5 → keyT r.crits.length k := fun i k hk _ => by
    unfold keysAt at hk
    cases ht : r.ties[i]? with
    | none => rw [ht] at hk; cases hk
    | some t =>
      rw [ht] at hk
      have htm := List.mem_of_getElem? ht
      have h1 : r.tieN t = t := map_fix (congrArg RulesD.ties hs.fix) t htm
      have h2 := map_fix (congrArg TieD.keys h1) k hk
      have h4 := hs.allOk
      unfold RulesD.allOk at h4
      rw [Bool.and_eq_true] at h4
      have h7 := List.all_eq_true.1 (List.all_eq_true.1 h4.1 t htm) k hk
      unfold keyOk at h7
      have hn : k.n = if k.kind = 1 then indexF r.n0 k.name else if k.kind = 2 then indexF r.n3 k.name else if k.kind = 5 then indexF r.n2 k.name else k.n := (congrArg KeyD.n h2).symm
      refine ⟨fun h1 => ?_, fun h1 => ?_⟩
      · rw [if_pos h1] at h7 hn
        have := of_decide_eq_true h7
        have h9 := indexF_top (l := r.n0) (s := k.name)
        omega
      · rw [if_neg (by omega), if_pos h1] at h7 hn
        have := of_decide_eq_true h7
        omega
  have hka : ∀ i (h : i < r.ties.length), keysAt r.ties i = r.ties[i].keys := fun i h => by unfold keysAt; rw [List.getElem?_eq_getElem h]; rfl
  have hk : ∀ i, i < r.ties.length → keysAt r.ties i ≠ [] ∧ linkK r.ties.length (keysAt r.ties i) := fun i hi => by
    rw [hka i hi]
    refine ⟨fun e => ?_, fun k hk h5 => ?_⟩
    · have h6 := List.all_eq_true.1 hti _ (List.getElem_mem hi)
      unfold TieD.fine at h6
      rw [Bool.and_eq_true, decide_eq_true_iff] at h6
      rw [e] at h6; simp at h6
    · have := (hs.linked _ (List.getElem_mem hi)).2 k hk h5
      omega
  have hg := expansionF_good hk hQ hx
  rw [hL]
  have hLl : (expansionF r.ties).1.length = r.ties.length := expansionF_len hx
  have hbi := roundsBad_get r.rounds 0 hbad
  simp only [Nat.zero_add] at hbi
  refine ⟨hne, fun c hc => ?_, fun y hy => ?_, fun i hi hp => ?_, hs.tieNo, fun i hi h2 h0 k hk2 => ?_⟩
  · have := List.all_eq_true.1 hcr c hc
    unfold Crit.fine at this
    rw [decide_eq_true_iff] at this
    omega
  · have := hyf y hy
    unfold RoundD.fine at this
    simp only [Bool.and_eq_true, decide_eq_true_eq] at this
    exact ⟨this.1.1, this.1.2.1, fun c hc => of_decide_eq_true (List.all_eq_true.1 this.2.1 c hc)⟩
  · have h1 := hyf _ (List.getElem_mem hi)
    unfold RoundD.fine at h1
    simp only [Bool.and_eq_true, hp, Bool.false_eq_true, if_false] at h1
    have h3 := h1.2.2
    rw [Ex.fine_pre] at h3
    have h4 := hbi i hi
    unfold RulesD.roundBad at h4
    rw [Bool.or_eq_false_iff] at h4
    intro z hz
    have h5 := Ex.res_self z (Ex.pre_all (Q := fun z => z.res r.n0 r.n3 = z ∧ z.ok r.n0 r.n3 = true) (fun x hx => Ex.res_kid x hx) _ (hrf _ (List.getElem_mem hi)) z hz)
    refine ⟨List.all_eq_true.1 h3 z hz, fun hk2 => ?_, fun hk5 => ?_⟩
    · have := h5.1 hk2; omega
    · have h6 := h5.2 hk5
      have h7 := List.any_eq_false.1 h4.1 z hz
      unfold RulesD.lateN at h7
      simp only [hk5, decide_true, Bool.true_and, decide_eq_true_eq] at h7
      omega
  · have hti2 : r.rounds[i].tieNo.toNat < r.ties.length := by omega
    have h4 := hbi i hi
    unfold RulesD.roundBad at h4
    rw [Bool.or_eq_false_iff] at h4
    have hgd : (expansionF r.ties).1.getD r.rounds[i].tieNo.toNat [] = (expansionF r.ties).1[r.rounds[i].tieNo.toNat] := by rw [List.getD_eq_getElem?_getD, List.getElem?_eq_getElem h2]; rfl
    have h5 := (hg _ hti2).2.2.2 k (by rw [hgd]; exact hk2)
    have h6 : ((expansionF r.ties).1.getD r.rounds[i].tieNo.toNat []).all (RulesD.earlyK i) = true := by
      have := h4.2
      simpa [h0] using this
    rw [hgd] at h6
    have h7 := List.all_eq_true.1 h6 k hk2
    unfold RulesD.earlyK at h7
    rw [Bool.or_eq_true, decide_eq_true_iff, decide_eq_true_iff] at h7
    refine ⟨h5.1, fun hk => ⟨h5.2 hk, ?_⟩⟩
    rcases h7 with h7 | h7
    · exact absurd hk h7
    · exact h7
end Go.Fr

/- RulesTotal: the law's walk. -/
-- STRINGS
-- ROWS
-- PRUNEC
namespace Go.Proofs.YthldagplhklbnaaDoor
open Go Go.RowKit Go.Kx Go.Fr
set_option maxHeartbeats 4000000 in
set_option maxRecDepth 100000 in
theorem rulesTotal_any (kk : Nat) (r : RulesD) : FnC Tryd.prog 4 [rul kk r] [Tab] (fun p loc => p = exB true ∧ loc = []) := by
  have hfw := few15_any kk r
  by_cases hf : r.few15 = true
  · have hf14 := RulesD.few_of15 hf
    have hck := nCheck15_any kk r hf14
    have hkys := fun tie => nKeys15_any kk r tie hf14
    rw [hf] at hfw
    by_cases hc : (r.check15 freeF).2 = 0
    · rw [hc] at hck
      have hT := RulesD.total_of hc
      have hLl := RulesD.check15_len hc
      have hko : ∀ (i : Nat) (h : i < r.rounds.length), ∃ K : List KeyD, r.keys15 freeF r.rounds[i].tieNo = (K, 0) ∧ ∀ k ∈ K, (k.kind = 1 → 0 ≤ k.n ∧ k.n < r.crits.length) ∧ (k.kind = 2 → 0 ≤ k.n ∧ k.n < i) := fun i h => by
        have ht := hT.tie _ (List.getElem_mem h)
        by_cases h0 : 0 ≤ r.rounds[i].tieNo
        · have h2 : r.rounds[i].tieNo.toNat < (r.check15 freeF).1.length := by omega
          refine ⟨(r.check15 freeF).1[r.rounds[i].tieNo.toNat], ?_, hT.keys i h h2 h0⟩
          have := RulesD.keys_of hc r.rounds[i].tieNo.toNat (by omega)
          rw [Int.toNat_of_nonneg h0, List.getD_eq_getElem?_getD, List.getElem?_eq_getElem h2] at this
          exact this
        · have h1 : r.rounds[i].tieNo = -1 := by omega
          refine ⟨[], ?_, fun k hk => by cases hk⟩
          unfold RulesD.keys15
          rw [if_neg (by simp [hc]), if_neg (by omega), if_pos h1]
      have hkl : ∀ (i : Nat) (h : i < r.rounds.length), ∃ K : List KeyD, FnC Tryd.prog 10 [rul kk r, exI .i64 r.rounds[i].tieNo] [Tab] (fun p loc => p = tup [isl eKey K, exI .i64 0] ∧ loc = []) ∧ ∀ k ∈ K, (k.kind = 1 → 0 ≤ k.n ∧ k.n < r.crits.length) ∧ (k.kind = 2 → 0 ≤ k.n ∧ k.n < i) := fun i h => by
        obtain ⟨K, h1, h2⟩ := hko i h
        have h3 := hkys r.rounds[i].tieNo
        rw [h1] at h3
        exact ⟨K, h3, h2⟩
      generalize (r.check15 freeF).1 = L at hT
      clear hkys hko hc hLl
      unfold rul at *
      refine FnC_says (i := 0) rfl (Says_agg (i := 5) (p := isl (eRound kk) r.rounds) rfl Says_isl) fun hry => ?_
      refine FnC_says (i := 0) rfl (Says_agg (i := 1) (p := isl eCrit r.crits) rfl Says_isl) fun hcy => ?_
      obtain ⟨hry, -⟩ := hry
      obtain ⟨hcy, -⟩ := hcy
      simp only [maxLen] at hry hcy
      obtain ⟨hs1, hs2⟩ := hT.some
      refine FnC_enter Tryd.func4 rfl Tryd.ntmps4 rfl fun w0 F0 out => ?_
      (repeat' (first | (apply at_region 3; refine Stop.out ?_) | refine WP_seq ?_ | refine WP_region ?_ | refine WPL_nil ?_ | (apply WPL_t; (first | exact WT_assign rfl | (apply g_un; first | exact WT_not rfl)); exact rfl) | refine WP_skip ?_ | refine WP_cond_f rfl ?_ | (apply WPL_op0; exact rfl; first | (apply g_callf; first | (refine WO_callG (.dup 1 rfl rfl .nil) Tryd.func7 rfl sane15_any rfl ?_ (hH := hH_tab2); rintro _ _ ⟨rfl, rfl⟩)) | (apply g_box; refine WO_box rfl ?_; intro _))))
      rename_i b1
      refine ⟨WP_leads (Leads_fp (k := 0) (t := 1) rfl rfl) ?_⟩
      (repeat' (first | (apply at_region 5; refine Stop.out ?_) | refine WP_seq ?_ | refine WP_region ?_ | refine WPL_nil ?_ | (apply WPL_t; (first | exact WT_move rfl | exact WT_pick (b := false) rfl (fun e => by cases e) (fun _ => rfl) | (apply g_load; first | exact WT_loadfa rfl rfl) | (apply g_un; first | exact WT_not rfl)); exact rfl) | (apply WPL_gt; exact rfl; exact rfl; exact rfl; (first | (apply g_load; first | exact WT_loadfa rfl rfl) | (apply g_bin; first | exact WT_neq rfl rfl)); exact rfl) | refine WP_skip ?_ | refine WP_cond_f rfl ?_ | (apply WPL_op0; exact rfl; first | (apply g_callf; first | (refine WO_call Tryd.func8 rfl hfw rfl ?_; rintro _ _ ⟨rfl, rfl⟩))) | (apply WPL_on0; exact rfl; exact rfl; exact rfl; exact rfl; (apply g_callf; first | (refine WO_callG (.dup 0 rfl rfl .nil) Tryd.func9 rfl hck rfl ?_ (hH := hH_tab2); rintro _ _ ⟨rfl, rfl⟩)))))
      refine ⟨?_⟩
      (repeat' (first | (apply at_region 7; refine Stop.out ?_) | refine WP_seq ?_ | refine WP_region ?_ | refine WPL_nil ?_ | (apply WPL_t; (first | exact WT_move rfl | exact WT_pick (b := false) rfl (fun e => by cases e) (fun _ => rfl) | (apply g_load; first | exact WT_loadf rfl rfl) | (apply g_fld; first | exact WT_fieldf rfl rfl rfl) | (apply g_bin; first | exact WT_eql rfl rfl) | (apply g_call; first | exact WT_len rfl rfl)); exact rfl) | (apply WPL_gt; exact rfl; exact rfl; exact rfl; (first | (apply g_load; first | exact WT_loadf rfl rfl) | (apply g_fld; first | exact WT_fieldf rfl rfl rfl) | (apply g_bin; first | exact WT_eql rfl rfl) | (apply g_call; first | exact WT_len rfl rfl)); exact rfl) | refine WP_skip ?_ | (refine WPL_case rfl rfl (fun hb => ?_) (fun hb => ?_) <;> (repeat (first | replace hb := dec_t hb | replace hb := dec_f hb)) <;> (try (exfalso; first | omega))) | (refine WP_cond rfl (fun hb => ?_) (fun hb => ?_) <;> (repeat (first | replace hb := dec_t hb | replace hb := dec_f hb)) <;> (try (exfalso; first | omega)))))
      all_goals (try (exfalso; omega))
      refine ⟨?_⟩
      (repeat' (first | refine WP_region ?_ | refine WPL_nil ?_ | (apply WPL_t; (first | exact WT_assign rfl); exact rfl) | refine WP_block ?_))
      refine WP_loop (fun i : Nat => ([(1, fp (rulesV kk r)), (3, exI .i64 (i : Int))], [Tab])) (fun i => i ≤ r.rounds.length) (fun i => r.rounds.length - i) 0 ?_ (Nat.zero_le _) fun i hi => ?_
      · exact Leads_env (by repeat (first | exact sub_nil | refine sub_cons rfl ?_)) (List.Sublist.refl _)
      by_cases hlt : i < r.rounds.length
      · obtain ⟨hp1, hp2, htr⟩ := hT.trim _ (List.getElem_mem hlt)
        obtain ⟨K, hky, hK⟩ := hkl i hlt
        (repeat' (first | (apply at_region 11; refine Stop.out ?_) | refine WP_seq ?_ | refine WP_region ?_ | refine WPL_nil ?_ | (apply WPL_t; (first | exact WT_move rfl | (apply g_load; first | exact WT_loadf rfl rfl | exact WT_loadfa rfl rfl) | (apply g_fld; first | exact WT_fieldf rfl rfl rfl) | (apply g_bin; first | exact WT_lss rfl rfl) | (apply g_index; first | exact WT_index rfl rfl rfl) | (apply g_call; first | exact WT_len rfl rfl)); exact rfl) | refine WP_block ?_ | refine WP_skip ?_ | (apply WPL_op0; exact rfl; first | (apply g_alloc; refine WO_alloc ?_; intro _) | (apply g_store; first | refine WO_store (k := 0) (l0 := []) rfl rfl rfl ?_)) | (refine WP_cond rfl (fun hb => ?_) (fun hb => ?_) <;> (repeat (first | replace hb := dec_t hb | replace hb := dec_f hb)) <;> (try (exfalso; first | omega)))))
        all_goals (try (exfalso; omega))
        rename_i b4
        refine ⟨WP_leads (Leads_fp (k := 0) (t := 4) rfl rfl) ?_⟩
        (repeat' (first | (apply at_region 13; refine Stop.out ?_) | refine WP_seq ?_ | refine WP_region ?_ | refine WPL_nil ?_ | (apply WPL_t; (first | exact WT_move rfl | exact WT_pick (b := true) rfl (fun _ => rfl) (fun e => by cases e) | exact WT_pick (b := false) rfl (fun e => by cases e) (fun _ => rfl) | (apply g_load; first | exact WT_loadf rfl rfl) | (apply g_fld; first | exact WT_fieldf rfl rfl rfl) | (apply g_un; first | exact WT_not rfl)); exact rfl) | (refine WPL_off rfl rfl rfl rfl rfl ?_) | (apply WPL_gt; exact rfl; exact rfl; exact rfl; (first | exact WT_move rfl | (apply g_load; first | exact WT_loadf rfl rfl | exact WT_loadfa2 rfl rfl) | (apply g_fld; first | exact WT_fieldf rfl rfl rfl) | (apply g_call; first | exact WT_len rfl rfl) | (apply g_un; first | exact WT_not rfl)); exact rfl) | refine WP_skip ?_ | refine WP_cond_f rfl ?_ | (apply WPL_on0; exact rfl; exact rfl; exact rfl; exact rfl; (apply g_callf; first | (refine WO_call Tryd.func12 rfl (walkW_any _ _ _ _ (hT.score i hlt (by assumption))) rfl ?_; rintro _ _ ⟨rfl, rfl⟩))) | (refine WPL_case rfl rfl (fun hb => ?_) (fun hb => ?_) <;> (repeat (first | replace hb := not_t hb | replace hb := not_f hb)) <;> (try (exfalso; first | fail)))))
        all_goals (refine ⟨WP_leads (Leads_env (env' := [(1, fp (rulesV kk r)), (3, exI .i64 (i : Int)), (4, fp (roundV kk r.rounds[i]))]) (loc' := [Tab]) (by repeat (first | exact sub_nil | refine sub_cons rfl ?_)) (List.Sublist.refl _)) ?_⟩)
        all_goals ((repeat' (first | refine WP_region ?_ | refine WPL_nil ?_ | (apply WPL_t; (first | exact WT_assign rfl); exact rfl) | refine WP_block ?_)))
        all_goals (refine WP_loop (fun q : Nat => ([(1, fp (rulesV kk r)), (3, exI .i64 (i : Int)), (4, fp (roundV kk r.rounds[i])), (5, exI .i64 (q : Int))], [Tab])) (fun q => q ≤ r.crits.length) (fun q => r.crits.length - q) 0 ?_ (Nat.zero_le _) fun q hq => ?_)
        all_goals (try exact Leads_env (by repeat (first | exact sub_nil | refine sub_cons rfl ?_)) (List.Sublist.refl _))
        all_goals (by_cases hlq : q < r.crits.length)
        all_goals (first | (have hcq := hT.crit _ (List.getElem_mem hlq); have htq := htr _ (List.getElem_mem hlq)) | skip)
        all_goals ((repeat' (first | (apply at_region 16; refine Stop.out ?_) | (apply at_region 18; refine Stop.out ?_) | refine WP_seq ?_ | refine WP_region ?_ | refine WPL_nil ?_ | (apply WPL_t; (first | exact WT_move rfl | (apply g_load; first | exact WT_loadf rfl rfl) | (apply g_fld; first | exact WT_fieldf rfl rfl rfl) | (apply g_bin; first | exact WT_lss rfl rfl) | (apply g_call; first | exact WT_len rfl rfl)); exact rfl) | refine WP_block ?_ | refine WP_skip ?_ | refine WP_exit ?_ | (refine WP_cond rfl (fun hb => ?_) (fun hb => ?_) <;> (repeat (first | replace hb := dec_t hb | replace hb := dec_f hb)) <;> (try (exfalso; first | omega))))))
        all_goals (try (exfalso; first | contradiction | omega))
        iterate 2
          · refine ⟨?_⟩
            (refine WP_drawl 53 rfl ?_)
            all_goals ((apply WPY_pure 0 rfl (by decide +kernel) rfl (by repeat (first | exact np_ret)) guard_none; (first | (apply g_fld; first | exact WT_fieldf rfl rfl rfl)); exact rfl))
            all_goals ((apply WPY_take 1 rfl (by decide +kernel) rfl (by decide +kernel) (by repeat (first | exact np_ret)) guard_none; (first | (apply g_load; first | exact WT_loadf rfl rfl)); exact rfl))
            all_goals ((apply WPY_pure 2 rfl (by decide +kernel) rfl (by repeat (first | exact np_ret)) guard_none; (first | exact WT_move rfl); exact rfl))
            all_goals ((apply WPY_pure 3 rfl (by decide +kernel) rfl (by repeat (first | exact np_ret)) guard_none; (first | (apply g_index; first | exact WT_index rfl rfl rfl)); exact rfl))
            all_goals ((apply WPY_pure 4 rfl (by decide +kernel) rfl (by repeat (first | exact np_ret)) guard_none; (first | (apply g_fld; first | exact WT_fieldf rfl rfl rfl)); exact rfl))
            all_goals ((apply WPY_take 5 rfl (by decide +kernel) rfl (by decide +kernel) (by repeat (first | exact np_ret)) guard_none; (first | (apply g_load; first | exact WT_loadf rfl rfl)); exact rfl))
            all_goals ((apply WPY_pure 6 rfl (by decide +kernel) rfl (by repeat (first | exact np_ret)) guard_none; (first | (apply g_bin; first | exact WT_lss rfl rfl)); exact rfl))
            all_goals ((apply WPY_pure 7 rfl (by decide +kernel) rfl (by repeat (first | exact np_ret)) guard_none; (first | exact WT_move rfl); exact rfl))
            all_goals (first | (refine WPY_case 68 rfl (fun hb => ?_) (fun hb => ?_) <;> (repeat (first | replace hb := dec_t hb | replace hb := dec_f hb | replace hb := not_t hb | replace hb := not_f hb)) <;> (try (exfalso; first | (cases hb; done) | contradiction | omega))) | skip)
            all_goals (first | (apply WPY_pure 8 rfl (by decide +kernel) rfl (by repeat (first | exact np_ret)) (guard_some rfl rfl rfl); (first | (apply g_fld; first | exact WT_fieldf rfl rfl rfl)); exact rfl))
            all_goals (first | (apply WPY_take 9 rfl (by decide +kernel) rfl (by decide +kernel) (by repeat (first | exact np_ret)) (guard_some rfl rfl rfl); (first | (apply g_load; first | exact WT_loadf rfl rfl)); exact rfl))
            all_goals (first | (apply WPY_pure 10 rfl (by decide +kernel) rfl (by repeat (first | exact np_ret)) (guard_some rfl rfl rfl); (first | (apply g_fld; first | exact WT_fieldf rfl rfl rfl)); exact rfl))
            all_goals (first | (apply WPY_take 11 rfl (by decide +kernel) rfl (by decide +kernel) (by repeat (first | exact np_ret)) (guard_some rfl rfl rfl); (first | (apply g_load; first | exact WT_loadf rfl rfl)); exact rfl))
            all_goals (first | (apply WPY_pure 12 rfl (by decide +kernel) rfl (by repeat (first | exact np_ret)) (guard_some rfl rfl rfl); (first | exact WT_move rfl); exact rfl))
            all_goals (first | (apply WPY_pure 13 rfl (by decide +kernel) rfl (by repeat (first | exact np_ret)) (guard_some rfl rfl rfl); (first | (apply g_index; first | exact WT_index rfl rfl rfl)); exact rfl))
            all_goals (first | (apply WPY_pure 14 rfl (by decide +kernel) rfl (by repeat (first | exact np_ret)) (guard_some rfl rfl rfl); (first | (apply g_fld; first | exact WT_fieldf rfl rfl rfl)); exact rfl))
            all_goals (first | (apply WPY_take 15 rfl (by decide +kernel) rfl (by decide +kernel) (by repeat (first | exact np_ret)) (guard_some rfl rfl rfl); (first | (apply g_load; first | exact WT_loadf rfl rfl)); exact rfl))
            all_goals (first | (apply WPY_pure 16 rfl (by decide +kernel) rfl (by repeat (first | exact np_ret)) (guard_some rfl rfl rfl); (first | (apply g_bin; first | exact WT_mul rfl rfl)); exact rfl))
            all_goals (first | (apply WPY_pure 17 rfl (by decide +kernel) rfl (by repeat (first | exact np_ret)) (guard_some rfl rfl rfl); (first | (apply g_bin; first | exact WT_sub rfl rfl)); exact rfl))
            all_goals (first | (apply WPY_pure 18 rfl (by decide +kernel) rfl (by repeat (first | exact np_ret)) (guard_some rfl rfl rfl); (first | (apply g_bin; first | exact WT_lss rfl rfl)); exact rfl))
            all_goals ((apply WPY_pure 19 rfl (by decide +kernel) rfl (by repeat (first | exact np_ret)) guard_none; (first | exact WT_pick (b := false) rfl (fun e => by cases e) (fun _ => rfl)); exact rfl))
            all_goals ((apply WPY_pure 20 rfl (by decide +kernel) rfl (by repeat (first | exact np_ret)) guard_none; (first | exact WT_move rfl); exact rfl))
            all_goals (first | (refine WPY_case 81 rfl (fun hb => ?_) (fun hb => ?_) <;> (repeat (first | replace hb := dec_t hb | replace hb := dec_f hb | replace hb := not_t hb | replace hb := not_f hb)) <;> (try (exfalso; first | (cases hb; done) | contradiction | omega))) | skip)
            all_goals (first | (apply WPY_pure 21 rfl (by decide +kernel) rfl (by repeat (first | exact np_ret)) (guard_some rfl rfl rfl); (first | (apply g_fld; first | exact WT_fieldf rfl rfl rfl)); exact rfl))
            all_goals (first | (apply WPY_take 22 rfl (by decide +kernel) rfl (by decide +kernel) (by repeat (first | exact np_ret)) (guard_some rfl rfl rfl); (first | (apply g_load; first | exact WT_loadf rfl rfl)); exact rfl))
            all_goals (first | (apply WPY_pure 23 rfl (by decide +kernel) rfl (by repeat (first | exact np_ret)) (guard_some rfl rfl rfl); (first | exact WT_move rfl); exact rfl))
            all_goals (first | (apply WPY_pure 24 rfl (by decide +kernel) rfl (by repeat (first | exact np_ret)) (guard_some rfl rfl rfl); (first | (apply g_index; first | exact WT_index rfl rfl rfl)); exact rfl))
            all_goals (first | (apply WPY_pure 25 rfl (by decide +kernel) rfl (by repeat (first | exact np_ret)) (guard_some rfl rfl rfl); (first | (apply g_fld; first | exact WT_fieldf rfl rfl rfl)); exact rfl))
            all_goals (first | (apply WPY_take 26 rfl (by decide +kernel) rfl (by decide +kernel) (by repeat (first | exact np_ret)) (guard_some rfl rfl rfl); (first | (apply g_load; first | exact WT_loadf rfl rfl)); exact rfl))
            all_goals (first | (apply WPY_pure 27 rfl (by decide +kernel) rfl (by repeat (first | exact np_ret)) (guard_some rfl rfl rfl); (first | (apply g_bin; first | exact WT_lss rfl rfl)); exact rfl))
            all_goals ((apply WPY_pure 28 rfl (by decide +kernel) rfl (by repeat (first | exact np_ret)) guard_none; (first | exact WT_pick (b := false) rfl (fun e => by cases e) (fun _ => rfl)); exact rfl))
            all_goals ((apply WPY_pure 29 rfl (by decide +kernel) rfl (by repeat (first | exact np_ret)) guard_none; (first | exact WT_move rfl); exact rfl))
            all_goals (first | (refine WPY_case 90 rfl (fun hb => ?_) (fun hb => ?_) <;> (repeat (first | replace hb := dec_t hb | replace hb := dec_f hb | replace hb := not_t hb | replace hb := not_f hb)) <;> (try (exfalso; first | (cases hb; done) | contradiction | omega))) | skip)
            all_goals (first | (apply WPY_pure 30 rfl (by decide +kernel) rfl (by repeat (first | exact np_ret)) (guard_some rfl rfl rfl); (first | (apply g_fld; first | exact WT_fieldf rfl rfl rfl)); exact rfl))
            all_goals (first | (apply WPY_take 31 rfl (by decide +kernel) rfl (by decide +kernel) (by repeat (first | exact np_ret)) (guard_some rfl rfl rfl); (first | (apply g_load; first | exact WT_loadf rfl rfl)); exact rfl))
            all_goals (first | (apply WPY_pure 32 rfl (by decide +kernel) rfl (by repeat (first | exact np_ret)) (guard_some rfl rfl rfl); (first | exact WT_move rfl); exact rfl))
            all_goals (first | (apply WPY_pure 33 rfl (by decide +kernel) rfl (by repeat (first | exact np_ret)) (guard_some rfl rfl rfl); (first | (apply g_index; first | exact WT_index rfl rfl rfl)); exact rfl))
            all_goals (first | (apply WPY_pure 34 rfl (by decide +kernel) rfl (by repeat (first | exact np_ret)) (guard_some rfl rfl rfl); (first | (apply g_fld; first | exact WT_fieldf rfl rfl rfl)); exact rfl))
            all_goals (first | (apply WPY_take 35 rfl (by decide +kernel) rfl (by decide +kernel) (by repeat (first | exact np_ret)) (guard_some rfl rfl rfl); (first | (apply g_load; first | exact WT_loadf rfl rfl)); exact rfl))
            all_goals (first | (apply WPY_pure 36 rfl (by decide +kernel) rfl (by repeat (first | exact np_ret)) (guard_some rfl rfl rfl); (first | (apply g_fld; first | exact WT_fieldf rfl rfl rfl)); exact rfl))
            all_goals (first | (apply WPY_take 37 rfl (by decide +kernel) rfl (by decide +kernel) (by repeat (first | exact np_ret)) (guard_some rfl rfl rfl); (first | (apply g_load; first | exact WT_loadf rfl rfl)); exact rfl))
            all_goals (first | (apply WPY_pure 38 rfl (by decide +kernel) rfl (by repeat (first | exact np_ret)) (guard_some rfl rfl rfl); (first | exact WT_move rfl); exact rfl))
            all_goals (first | (apply WPY_pure 39 rfl (by decide +kernel) rfl (by repeat (first | exact np_ret)) (guard_some rfl rfl rfl); (first | (apply g_index; first | exact WT_index rfl rfl rfl)); exact rfl))
            all_goals (first | (apply WPY_pure 40 rfl (by decide +kernel) rfl (by repeat (first | exact np_ret)) (guard_some rfl rfl rfl); (first | (apply g_fld; first | exact WT_fieldf rfl rfl rfl)); exact rfl))
            all_goals (first | (apply WPY_take 41 rfl (by decide +kernel) rfl (by decide +kernel) (by repeat (first | exact np_ret)) (guard_some rfl rfl rfl); (first | (apply g_load; first | exact WT_loadf rfl rfl)); exact rfl))
            all_goals (first | (apply WPY_pure 42 rfl (by decide +kernel) rfl (by repeat (first | exact np_ret)) (guard_some rfl rfl rfl); (first | (apply g_bin; first | exact WT_geq rfl rfl)); exact rfl))
            all_goals ((apply WPY_pure 43 rfl (by decide +kernel) rfl (by repeat (first | exact np_ret)) guard_none; (first | exact WT_pick (b := false) rfl (fun e => by cases e) (fun _ => rfl)); exact rfl))
            all_goals ((apply WPY_pure 44 rfl (by decide +kernel) rfl (by repeat (first | exact np_ret)) guard_none; (first | exact WT_move rfl); exact rfl))
            all_goals (first | (refine WPY_case 105 rfl (fun hb => ?_) (fun hb => ?_) <;> (repeat (first | replace hb := dec_t hb | replace hb := dec_f hb | replace hb := not_t hb | replace hb := not_f hb)) <;> (try (exfalso; first | (cases hb; done) | contradiction | omega))) | skip)
            all_goals (first | (apply WPY_pure 45 rfl (by decide +kernel) rfl (by repeat (first | exact np_ret)) (guard_some rfl rfl rfl); (first | (apply g_fld; first | exact WT_fieldf rfl rfl rfl)); exact rfl))
            all_goals (first | (apply WPY_take 46 rfl (by decide +kernel) rfl (by decide +kernel) (by repeat (first | exact np_ret)) (guard_some rfl rfl rfl); (first | (apply g_load; first | exact WT_loadf rfl rfl)); exact rfl))
            all_goals (first | (apply WPY_pure 47 rfl (by decide +kernel) rfl (by repeat (first | exact np_ret)) (guard_some rfl rfl rfl); (first | exact WT_move rfl); exact rfl))
            all_goals (first | (apply WPY_pure 48 rfl (by decide +kernel) rfl (by repeat (first | exact np_ret)) (guard_some rfl rfl rfl); (first | (apply g_index; first | exact WT_index rfl rfl rfl)); exact rfl))
            all_goals (first | (apply WPY_pure 49 rfl (by decide +kernel) rfl (by repeat (first | exact np_ret)) (guard_some rfl rfl rfl); (first | (apply g_fld; first | exact WT_fieldf rfl rfl rfl)); exact rfl))
            all_goals (first | (apply WPY_take 50 rfl (by decide +kernel) rfl (by decide +kernel) (by repeat (first | exact np_ret)) (guard_some rfl rfl rfl); (first | (apply g_load; first | exact WT_loadf rfl rfl)); exact rfl))
            all_goals (first | (apply WPY_pure 51 rfl (by decide +kernel) rfl (by repeat (first | exact np_ret)) (guard_some rfl rfl rfl); (first | (apply g_bin; first | exact WT_lss rfl rfl)); exact rfl))
            all_goals ((apply WPY_pure 52 rfl (by decide +kernel) rfl (by repeat (first | exact np_ret)) guard_none; (first | exact WT_pick (b := false) rfl (fun e => by cases e) (fun _ => rfl)); exact rfl))
            all_goals (refine WPY_done (by decide +kernel) ?_)
            all_goals ((repeat' (first | refine WP_region ?_ | refine WPL_nil ?_ | (apply WPL_t; (first | exact WT_move rfl | exact WT_assign rfl | (apply g_bin; first | exact WT_add rfl rfl)); exact rfl) | refine WP_skip ?_ | (refine WP_cond rfl (fun hb => ?_) (fun hb => ?_) <;> (repeat (first | replace hb := dec_t hb | replace hb := dec_f hb)) <;> (try (exfalso; first | omega))))))
            all_goals (try (exfalso; first | contradiction | omega))
            exact ⟨q + 1, by omega, by omega, Leads_env (by repeat (first | exact sub_nil | refine sub_cons rfl ?_)) (List.Sublist.refl _)⟩
          · refine ⟨?_⟩
            (repeat' (first | refine WP_seq ?_ | refine WP_region ?_ | refine WPL_nil ?_ | (apply WPL_t; (first | exact WT_move rfl | exact WT_assign rfl | exact WT_extract rfl rfl | (apply g_load; first | exact WT_loadf rfl rfl | exact WT_loadfa rfl rfl) | (apply g_fld; first | exact WT_fieldf rfl rfl rfl) | (apply g_bin; first | exact WT_neq rfl rfl)); exact rfl) | refine WP_block ?_ | refine WP_skip ?_ | refine WP_cond_f rfl ?_ | (apply WPL_op0; exact rfl; first | (apply g_callf; first | (refine WO_callG (.dup 0 rfl rfl .nil) Tryd.func10 rfl hky rfl ?_ (hH := hH_tab2); rintro _ _ ⟨rfl, rfl⟩)))))
            refine WP_says (t := 6) rfl (Says_isl (E := eKey) (l := K)) fun hKl => ?_
            obtain ⟨hKl, -⟩ := hKl
            simp only [maxLen] at hKl
            refine WP_loop (fun q : Nat => ([(1, fp (rulesV kk r)), (3, exI .i64 (i : Int)), (4, fp (roundV kk r.rounds[i])), (6, isl eKey K), (8, exI .i64 (q : Int))], [Tab])) (fun q => q ≤ K.length) (fun q => K.length - q) 0 ?_ (Nat.zero_le _) fun m hm => ?_
            · exact Leads_env (by repeat (first | exact sub_nil | refine sub_cons rfl ?_)) (List.Sublist.refl _)
            by_cases hlm : m < K.length
            · obtain ⟨hk1, hk2⟩ := hK _ (List.getElem_mem hlm)
              (repeat' (first | (apply at_region 24; refine Stop.out ?_) | refine WP_seq ?_ | refine WP_region ?_ | refine WPL_nil ?_ | (apply WPL_t; (first | exact WT_move rfl | (apply g_bin; first | exact WT_lss rfl rfl) | (apply g_call; first | exact WT_len rfl rfl)); exact rfl) | refine WP_block ?_ | refine WP_skip ?_ | (refine WP_cond rfl (fun hb => ?_) (fun hb => ?_) <;> (repeat (first | replace hb := dec_t hb | replace hb := dec_f hb)) <;> (try (exfalso; first | omega)))))
              refine ⟨?_⟩
              (refine WP_drawl 50 rfl ?_)
              all_goals ((apply WPY_pure 0 rfl (by decide +kernel) rfl (by repeat (first | exact np_ret)) guard_none; (first | exact WT_move rfl); exact rfl))
              all_goals ((apply WPY_pure 1 rfl (by decide +kernel) rfl (by repeat (first | exact np_ret)) guard_none; (first | exact WT_move rfl); exact rfl))
              all_goals ((apply WPY_pure 2 rfl (by decide +kernel) rfl (by repeat (first | exact np_ret)) guard_none; (first | (apply g_index; first | exact WT_index rfl rfl rfl)); exact rfl))
              all_goals ((apply WPY_pure 3 rfl (by decide +kernel) rfl (by repeat (first | exact np_ret)) guard_none; (first | (apply g_fld; first | exact WT_fieldf rfl rfl rfl)); exact rfl))
              all_goals ((apply WPY_take 4 rfl (by decide +kernel) rfl (by decide +kernel) (by repeat (first | exact np_ret)) guard_none; (first | (apply g_load; first | exact WT_loadf rfl rfl)); exact rfl))
              all_goals ((apply WPY_pure 5 rfl (by decide +kernel) rfl (by repeat (first | exact np_ret)) guard_none; (first | (apply g_bin; first | exact WT_eql rfl rfl)); exact rfl))
              all_goals ((apply WPY_pure 6 rfl (by decide +kernel) rfl (by repeat (first | exact np_ret)) guard_none; (first | exact WT_move rfl); exact rfl))
              all_goals (first | (refine WPY_case 135 rfl (fun hb => ?_) (fun hb => ?_) <;> (repeat (first | replace hb := dec_t hb | replace hb := dec_f hb | replace hb := not_t hb | replace hb := not_f hb)) <;> (try (exfalso; first | (cases hb; done) | contradiction | omega))) | skip)
              all_goals (first | (refine WPY_off 7 rfl (by decide +kernel) rfl (by repeat (first | exact np_ret)) rfl rfl rfl rfl rfl ?_) | (apply WPY_pure 7 rfl (by decide +kernel) rfl (by repeat (first | exact np_ret)) (guard_some rfl rfl rfl); (first | exact WT_move rfl); exact rfl))
              all_goals (first | (refine WPY_off 8 rfl (by decide +kernel) rfl (by repeat (first | exact np_ret)) rfl rfl rfl rfl rfl ?_) | (apply WPY_pure 8 rfl (by decide +kernel) rfl (by repeat (first | exact np_ret)) (guard_some rfl rfl rfl); (first | exact WT_move rfl); exact rfl))
              all_goals (first | (refine WPY_off 9 rfl (by decide +kernel) rfl (by repeat (first | exact np_ret)) rfl rfl rfl rfl rfl ?_) | (apply WPY_pure 9 rfl (by decide +kernel) rfl (by repeat (first | exact np_ret)) (guard_some rfl rfl rfl); (first | (apply g_index; first | exact WT_index rfl rfl rfl)); exact rfl))
              all_goals (first | (refine WPY_off 10 rfl (by decide +kernel) rfl (by repeat (first | exact np_ret)) rfl rfl rfl rfl rfl ?_) | (apply WPY_pure 10 rfl (by decide +kernel) rfl (by repeat (first | exact np_ret)) (guard_some rfl rfl rfl); (first | (apply g_fld; first | exact WT_fieldf rfl rfl rfl)); exact rfl))
              all_goals (first | (refine WPY_off 11 rfl (by decide +kernel) rfl (by repeat (first | exact np_ret)) rfl rfl rfl rfl rfl ?_) | (apply WPY_take 11 rfl (by decide +kernel) rfl (by decide +kernel) (by repeat (first | exact np_ret)) (guard_some rfl rfl rfl); (first | (apply g_load; first | exact WT_loadf rfl rfl)); exact rfl))
              all_goals (first | (refine WPY_off 12 rfl (by decide +kernel) rfl (by repeat (first | exact np_ret)) rfl rfl rfl rfl rfl ?_) | (apply WPY_pure 12 rfl (by decide +kernel) rfl (by repeat (first | exact np_ret)) (guard_some rfl rfl rfl); (first | (apply g_bin; first | exact WT_lss rfl rfl)); exact rfl))
              all_goals (first | (refine WPY_off 13 rfl (by decide +kernel) rfl (by repeat (first | exact np_ret)) rfl rfl rfl rfl rfl ?_) | (apply WPY_pure 13 rfl (by decide +kernel) rfl (by repeat (first | exact np_ret)) (guard_some rfl rfl rfl); (first | exact WT_move rfl); exact rfl))
              all_goals (first | (refine WPY_case 142 rfl (fun hb => ?_) (fun hb => ?_) <;> (repeat (first | replace hb := dec_t hb | replace hb := dec_f hb | replace hb := not_t hb | replace hb := not_f hb)) <;> (try (exfalso; first | (cases hb; done) | contradiction | omega))) | skip)
              all_goals (first | (refine WPY_offu 14 rfl (by decide +kernel) rfl (by repeat (first | exact np_ret)) rfl rfl rfl rfl ?_) | (apply WPY_pure 14 rfl (by decide +kernel) rfl (by repeat (first | exact np_ret)) (guard_some rfl rfl rfl); (first | exact WT_move rfl); exact rfl))
              all_goals (first | (refine WPY_offu 15 rfl (by decide +kernel) rfl (by repeat (first | exact np_ret)) rfl rfl rfl rfl ?_) | (apply WPY_pure 15 rfl (by decide +kernel) rfl (by repeat (first | exact np_ret)) (guard_some rfl rfl rfl); (first | exact WT_move rfl); exact rfl))
              all_goals (first | (refine WPY_offu 16 rfl (by decide +kernel) rfl (by repeat (first | exact np_ret)) rfl rfl rfl rfl ?_) | (apply WPY_pure 16 rfl (by decide +kernel) rfl (by repeat (first | exact np_ret)) (guard_some rfl rfl rfl); (first | (apply g_index; first | exact WT_index rfl rfl rfl)); exact rfl))
              all_goals (first | (refine WPY_offu 17 rfl (by decide +kernel) rfl (by repeat (first | exact np_ret)) rfl rfl rfl rfl ?_) | (apply WPY_pure 17 rfl (by decide +kernel) rfl (by repeat (first | exact np_ret)) (guard_some rfl rfl rfl); (first | (apply g_fld; first | exact WT_fieldf rfl rfl rfl)); exact rfl))
              all_goals (first | (refine WPY_offu 18 rfl (by decide +kernel) rfl (by repeat (first | exact np_ret)) rfl rfl rfl rfl ?_) | (apply WPY_take 18 rfl (by decide +kernel) rfl (by decide +kernel) (by repeat (first | exact np_ret)) (guard_some rfl rfl rfl); (first | (apply g_load; first | exact WT_loadf rfl rfl)); exact rfl))
              all_goals (first | (refine WPY_offu 19 rfl (by decide +kernel) rfl (by repeat (first | exact np_ret)) rfl rfl rfl rfl ?_) | (apply WPY_pure 19 rfl (by decide +kernel) rfl (by repeat (first | exact np_ret)) (guard_some rfl rfl rfl); (first | (apply g_fld; first | exact WT_fieldf rfl rfl rfl)); exact rfl))
              all_goals (first | (refine WPY_offu 20 rfl (by decide +kernel) rfl (by repeat (first | exact np_ret)) rfl rfl rfl rfl ?_) | (apply WPY_take 20 rfl (by decide +kernel) rfl (by decide +kernel) (by repeat (first | exact np_ret)) (guard_some rfl rfl rfl); (first | (apply g_load; first | exact WT_loadf rfl rfl)); exact rfl))
              all_goals (first | (refine WPY_offu 21 rfl (by decide +kernel) rfl (by repeat (first | exact np_ret)) rfl rfl rfl rfl ?_) | (apply WPY_pure 21 rfl (by decide +kernel) rfl (by repeat (first | exact np_ret)) (guard_some rfl rfl rfl); (first | (apply g_call; first | exact WT_len rfl rfl)); exact rfl))
              all_goals (first | (refine WPY_offu 22 rfl (by decide +kernel) rfl (by repeat (first | exact np_ret)) rfl rfl rfl rfl ?_) | (apply WPY_pure 22 rfl (by decide +kernel) rfl (by repeat (first | exact np_ret)) (guard_some rfl rfl rfl); (first | (apply g_bin; first | exact WT_geq rfl rfl)); exact rfl))
              all_goals (first | (refine WPY_off 23 rfl (by decide +kernel) rfl (by repeat (first | exact np_ret)) rfl rfl rfl rfl rfl ?_) | (apply WPY_pure 23 rfl (by decide +kernel) rfl (by repeat (first | exact np_ret)) (guard_some rfl rfl rfl); (first | exact WT_pick (b := false) rfl (fun e => by cases e) (fun _ => rfl)); exact rfl))
              all_goals ((apply WPY_pure 24 rfl (by decide +kernel) rfl (by repeat (first | exact np_ret)) guard_none; (first | exact WT_pick (b := true) rfl (fun _ => rfl) (fun e => by cases e) | exact WT_pick (b := false) rfl (fun e => by cases e) (fun _ => rfl)); exact rfl))
              all_goals ((apply WPY_pure 25 rfl (by decide +kernel) rfl (by repeat (first | exact np_ret)) guard_none; (first | exact WT_move rfl); exact rfl))
              all_goals (first | (refine WPY_case 154 rfl (fun hb => ?_) (fun hb => ?_) <;> (repeat (first | replace hb := dec_t hb | replace hb := dec_f hb | replace hb := not_t hb | replace hb := not_f hb)) <;> (try (exfalso; first | (cases hb; done) | contradiction | omega))) | skip)
              all_goals (first | (apply WPY_pure 26 rfl (by decide +kernel) rfl (by repeat (first | exact np_ret)) (guard_some rfl rfl rfl); (first | exact WT_move rfl); exact rfl))
              all_goals (first | (apply WPY_pure 27 rfl (by decide +kernel) rfl (by repeat (first | exact np_ret)) (guard_some rfl rfl rfl); (first | exact WT_move rfl); exact rfl))
              all_goals (first | (apply WPY_pure 28 rfl (by decide +kernel) rfl (by repeat (first | exact np_ret)) (guard_some rfl rfl rfl); (first | (apply g_index; first | exact WT_index rfl rfl rfl)); exact rfl))
              all_goals (first | (apply WPY_pure 29 rfl (by decide +kernel) rfl (by repeat (first | exact np_ret)) (guard_some rfl rfl rfl); (first | (apply g_fld; first | exact WT_fieldf rfl rfl rfl)); exact rfl))
              all_goals (first | (apply WPY_take 30 rfl (by decide +kernel) rfl (by decide +kernel) (by repeat (first | exact np_ret)) (guard_some rfl rfl rfl); (first | (apply g_load; first | exact WT_loadf rfl rfl)); exact rfl))
              all_goals (first | (apply WPY_pure 31 rfl (by decide +kernel) rfl (by repeat (first | exact np_ret)) (guard_some rfl rfl rfl); (first | (apply g_bin; first | exact WT_eql rfl rfl)); exact rfl))
              all_goals (first | (apply WPY_pure 32 rfl (by decide +kernel) rfl (by repeat (first | exact np_ret)) (guard_some rfl rfl rfl); (first | exact WT_move rfl); exact rfl))
              all_goals (first | (refine WPY_case 161 rfl (fun hb => ?_) (fun hb => ?_) <;> (repeat (first | replace hb := dec_t hb | replace hb := dec_f hb | replace hb := not_t hb | replace hb := not_f hb)) <;> (try (exfalso; first | (cases hb; done) | contradiction | omega))) | skip)
              all_goals (first | (refine WPY_off 33 rfl (by decide +kernel) rfl (by repeat (first | exact np_ret)) rfl rfl rfl rfl rfl ?_) | (apply WPY_pure 33 rfl (by decide +kernel) rfl (by repeat (first | exact np_ret)) (guard_some rfl rfl rfl); (first | exact WT_move rfl); exact rfl))
              all_goals (first | (refine WPY_off 34 rfl (by decide +kernel) rfl (by repeat (first | exact np_ret)) rfl rfl rfl rfl rfl ?_) | (apply WPY_pure 34 rfl (by decide +kernel) rfl (by repeat (first | exact np_ret)) (guard_some rfl rfl rfl); (first | exact WT_move rfl); exact rfl))
              all_goals (first | (refine WPY_off 35 rfl (by decide +kernel) rfl (by repeat (first | exact np_ret)) rfl rfl rfl rfl rfl ?_) | (apply WPY_pure 35 rfl (by decide +kernel) rfl (by repeat (first | exact np_ret)) (guard_some rfl rfl rfl); (first | (apply g_index; first | exact WT_index rfl rfl rfl)); exact rfl))
              all_goals (first | (refine WPY_off 36 rfl (by decide +kernel) rfl (by repeat (first | exact np_ret)) rfl rfl rfl rfl rfl ?_) | (apply WPY_pure 36 rfl (by decide +kernel) rfl (by repeat (first | exact np_ret)) (guard_some rfl rfl rfl); (first | (apply g_fld; first | exact WT_fieldf rfl rfl rfl)); exact rfl))
              all_goals (first | (refine WPY_off 37 rfl (by decide +kernel) rfl (by repeat (first | exact np_ret)) rfl rfl rfl rfl rfl ?_) | (apply WPY_take 37 rfl (by decide +kernel) rfl (by decide +kernel) (by repeat (first | exact np_ret)) (guard_some rfl rfl rfl); (first | (apply g_load; first | exact WT_loadf rfl rfl)); exact rfl))
              all_goals (first | (refine WPY_off 38 rfl (by decide +kernel) rfl (by repeat (first | exact np_ret)) rfl rfl rfl rfl rfl ?_) | (apply WPY_pure 38 rfl (by decide +kernel) rfl (by repeat (first | exact np_ret)) (guard_some rfl rfl rfl); (first | (apply g_bin; first | exact WT_lss rfl rfl)); exact rfl))
              all_goals (first | (refine WPY_off 39 rfl (by decide +kernel) rfl (by repeat (first | exact np_ret)) rfl rfl rfl rfl rfl ?_) | (apply WPY_pure 39 rfl (by decide +kernel) rfl (by repeat (first | exact np_ret)) (guard_some rfl rfl rfl); (first | exact WT_move rfl); exact rfl))
              all_goals (first | (refine WPY_case 168 rfl (fun hb => ?_) (fun hb => ?_) <;> (repeat (first | replace hb := dec_t hb | replace hb := dec_f hb | replace hb := not_t hb | replace hb := not_f hb)) <;> (try (exfalso; first | (cases hb; done) | contradiction | omega))) | skip)
              all_goals (first | (refine WPY_offu 40 rfl (by decide +kernel) rfl (by repeat (first | exact np_ret)) rfl rfl rfl rfl ?_) | (apply WPY_pure 40 rfl (by decide +kernel) rfl (by repeat (first | exact np_ret)) (guard_some rfl rfl rfl); (first | exact WT_move rfl); exact rfl))
              all_goals (first | (refine WPY_offu 41 rfl (by decide +kernel) rfl (by repeat (first | exact np_ret)) rfl rfl rfl rfl ?_) | (apply WPY_pure 41 rfl (by decide +kernel) rfl (by repeat (first | exact np_ret)) (guard_some rfl rfl rfl); (first | exact WT_move rfl); exact rfl))
              all_goals (first | (refine WPY_offu 42 rfl (by decide +kernel) rfl (by repeat (first | exact np_ret)) rfl rfl rfl rfl ?_) | (apply WPY_pure 42 rfl (by decide +kernel) rfl (by repeat (first | exact np_ret)) (guard_some rfl rfl rfl); (first | (apply g_index; first | exact WT_index rfl rfl rfl)); exact rfl))
              all_goals (first | (refine WPY_offu 43 rfl (by decide +kernel) rfl (by repeat (first | exact np_ret)) rfl rfl rfl rfl ?_) | (apply WPY_pure 43 rfl (by decide +kernel) rfl (by repeat (first | exact np_ret)) (guard_some rfl rfl rfl); (first | (apply g_fld; first | exact WT_fieldf rfl rfl rfl)); exact rfl))
              all_goals (first | (refine WPY_offu 44 rfl (by decide +kernel) rfl (by repeat (first | exact np_ret)) rfl rfl rfl rfl ?_) | (apply WPY_take 44 rfl (by decide +kernel) rfl (by decide +kernel) (by repeat (first | exact np_ret)) (guard_some rfl rfl rfl); (first | (apply g_load; first | exact WT_loadf rfl rfl)); exact rfl))
              all_goals (first | (refine WPY_offu 45 rfl (by decide +kernel) rfl (by repeat (first | exact np_ret)) rfl rfl rfl rfl ?_) | (apply WPY_pure 45 rfl (by decide +kernel) rfl (by repeat (first | exact np_ret)) (guard_some rfl rfl rfl); (first | exact WT_move rfl); exact rfl))
              all_goals (first | (refine WPY_offu 46 rfl (by decide +kernel) rfl (by repeat (first | exact np_ret)) rfl rfl rfl rfl ?_) | (apply WPY_pure 46 rfl (by decide +kernel) rfl (by repeat (first | exact np_ret)) (guard_some rfl rfl rfl); (first | (apply g_bin; first | exact WT_geq rfl rfl)); exact rfl))
              all_goals (first | (refine WPY_off 47 rfl (by decide +kernel) rfl (by repeat (first | exact np_ret)) rfl rfl rfl rfl rfl ?_) | (apply WPY_pure 47 rfl (by decide +kernel) rfl (by repeat (first | exact np_ret)) (guard_some rfl rfl rfl); (first | exact WT_pick (b := false) rfl (fun e => by cases e) (fun _ => rfl)); exact rfl))
              all_goals (first | (apply WPY_pure 48 rfl (by decide +kernel) rfl (by repeat (first | exact np_ret)) (guard_some rfl rfl rfl); (first | exact WT_pick (b := true) rfl (fun _ => rfl) (fun e => by cases e) | exact WT_pick (b := false) rfl (fun e => by cases e) (fun _ => rfl)); exact rfl))
              all_goals ((apply WPY_pure 49 rfl (by decide +kernel) rfl (by repeat (first | exact np_ret)) guard_none; (first | exact WT_pick (b := false) rfl (fun e => by cases e) (fun _ => rfl)); exact rfl))
              all_goals (refine WPY_done (by decide +kernel) ?_)
              all_goals ((repeat' (first | refine WP_region ?_ | refine WPL_nil ?_ | (apply WPL_t; (first | exact WT_move rfl | exact WT_assign rfl | (apply g_bin; first | exact WT_add rfl rfl)); exact rfl) | refine WP_skip ?_ | refine WP_cond_f rfl ?_ | (refine WP_cond rfl (fun hb => ?_) (fun hb => ?_) <;> (repeat (first | replace hb := dec_t hb | replace hb := dec_f hb)) <;> (try (exfalso; first | omega))))))
              all_goals (try (exfalso; first | contradiction | omega))
              all_goals exact ⟨m + 1, by omega, by omega, Leads_env (by repeat (first | exact sub_nil | refine sub_cons rfl ?_)) (List.Sublist.refl _)⟩
            · (repeat' (first | refine WP_seq ?_ | refine WP_region ?_ | refine WPL_nil ?_ | (apply WPL_t; (first | exact WT_move rfl | exact WT_assign rfl | (apply g_bin; first | exact WT_lss rfl rfl | exact WT_add rfl rfl) | (apply g_call; first | exact WT_len rfl rfl)); exact rfl) | refine WP_exit ?_ | (refine WP_cond rfl (fun hb => ?_) (fun hb => ?_) <;> (repeat (first | replace hb := dec_t hb | replace hb := dec_f hb)) <;> (try (exfalso; first | omega)))))
              all_goals (try (exfalso; first | contradiction | omega))
              exact ⟨i + 1, by omega, by omega, Leads_env (by repeat (first | exact sub_nil | refine sub_cons rfl ?_)) (List.Sublist.refl _)⟩
      · (repeat' (first | refine WP_seq ?_ | refine WP_region ?_ | refine WPL_nil ?_ | (apply WPL_t; (first | exact WT_move rfl | exact WT_assign rfl | (apply g_load; first | exact WT_loadf rfl rfl) | (apply g_fld; first | exact WT_fieldf rfl rfl rfl) | (apply g_bin; first | exact WT_lss rfl rfl) | (apply g_call; first | exact WT_len rfl rfl)); exact rfl) | refine WP_ret ?_ | refine WP_exit ?_ | (refine WP_cond rfl (fun hb => ?_) (fun hb => ?_) <;> (repeat (first | replace hb := dec_t hb | replace hb := dec_f hb)) <;> (try (exfalso; first | omega)))))
        all_goals (try (exfalso; omega))
        exact ⟨.inr rfl, ret1 rfl (.tmp rfl) (List.nil_sublist _) ⟨rfl, rfl⟩⟩
    · unfold rul at *
      refine FnC_enter Tryd.func4 rfl Tryd.ntmps4 rfl fun w0 F0 out => ?_
      (repeat' (first | (apply at_region 3; refine Stop.out ?_) | refine WP_seq ?_ | refine WP_region ?_ | refine WPL_nil ?_ | (apply WPL_t; (first | exact WT_assign rfl | (apply g_un; first | exact WT_not rfl)); exact rfl) | refine WP_skip ?_ | refine WP_cond_f rfl ?_ | (apply WPL_op0; exact rfl; first | (apply g_callf; first | (refine WO_callG (.dup 1 rfl rfl .nil) Tryd.func7 rfl sane15_any rfl ?_ (hH := hH_tab2); rintro _ _ ⟨rfl, rfl⟩)) | (apply g_box; refine WO_box rfl ?_; intro _))))
      rename_i b1
      refine ⟨WP_leads (Leads_fp (k := 0) (t := 1) rfl rfl) ?_⟩
      (repeat' (first | refine WP_seq ?_ | refine WP_region ?_ | refine WPL_nil ?_ | (apply WPL_t; (first | exact WT_move rfl | exact WT_assign rfl | exact WT_pick (b := false) rfl (fun e => by cases e) (fun _ => rfl) | (apply g_load; first | exact WT_loadfa rfl rfl) | (apply g_un; first | exact WT_not rfl)); exact rfl) | (apply WPL_gt; exact rfl; exact rfl; exact rfl; (first | (apply g_load; first | exact WT_loadfa rfl rfl) | (apply g_bin; first | exact WT_neq rfl rfl)); exact rfl) | refine WP_ret ?_ | (apply WPL_op0; exact rfl; first | (apply g_callf; first | (refine WO_call Tryd.func8 rfl hfw rfl ?_; rintro _ _ ⟨rfl, rfl⟩))) | (apply WPL_on0; exact rfl; exact rfl; exact rfl; exact rfl; (apply g_callf; first | (refine WO_callG (.dup 0 rfl rfl .nil) Tryd.func9 rfl hck rfl ?_ (hH := hH_tab2); rintro _ _ ⟨rfl, rfl⟩))) | (refine WP_cond rfl (fun hb => ?_) (fun hb => ?_) <;> (repeat (first | replace hb := dec_t hb | replace hb := dec_f hb | replace hb := not_t hb | replace hb := not_f hb)) <;> (try (exfalso; first | contradiction)))))
      all_goals (try (exfalso; omega))
      exact ⟨.inr rfl, ret1 rfl (.tmp rfl) (List.nil_sublist _) ⟨rfl, rfl⟩⟩
  · have hf' : r.few15 = false := by simpa using hf
    rw [hf'] at hfw
    unfold rul at *
    refine FnC_enter Tryd.func4 rfl Tryd.ntmps4 rfl fun w0 F0 out => ?_
    (repeat' (first | (apply at_region 3; refine Stop.out ?_) | refine WP_seq ?_ | refine WP_region ?_ | refine WPL_nil ?_ | (apply WPL_t; (first | exact WT_assign rfl | (apply g_un; first | exact WT_not rfl)); exact rfl) | refine WP_skip ?_ | refine WP_cond_f rfl ?_ | (apply WPL_op0; exact rfl; first | (apply g_callf; first | (refine WO_callG (.dup 1 rfl rfl .nil) Tryd.func7 rfl sane15_any rfl ?_ (hH := hH_tab2); rintro _ _ ⟨rfl, rfl⟩)) | (apply g_box; refine WO_box rfl ?_; intro _))))
    rename_i b1
    refine ⟨WP_leads (Leads_fp (k := 0) (t := 1) rfl rfl) ?_⟩
    (repeat' (first | refine WP_seq ?_ | refine WP_region ?_ | refine WPL_nil ?_ | (apply WPL_t; (first | exact WT_move rfl | exact WT_assign rfl | exact WT_pick (b := true) rfl (fun _ => rfl) (fun e => by cases e) | (apply g_load; first | exact WT_loadfa rfl rfl) | (apply g_un; first | exact WT_not rfl)); exact rfl) | (refine WPL_off rfl rfl rfl rfl rfl ?_) | refine WP_ret ?_ | refine WP_cond_t rfl ?_ | (apply WPL_op0; exact rfl; first | (apply g_callf; first | (refine WO_call Tryd.func8 rfl hfw rfl ?_; rintro _ _ ⟨rfl, rfl⟩)))))
    exact ⟨.inr rfl, ret1 rfl (.tmp rfl) (List.nil_sublist _) ⟨rfl, rfl⟩⟩
end Go.Proofs.YthldagplhklbnaaDoor
