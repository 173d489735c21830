/- The laws' own test of the reference: sane. -/
import Derived.Test.YtjjjblegnjiaoaaDoorPart5
import Derived.Test.YtjjjblegnjiaoaaDoorPart4
import Derived.Test.YtjjjblegnjiaoaaDoorPart3
-- STRINGS
-- ROWS
namespace Go.Proofs.YtjjjblegnjiaoaaDoor
open Go Go.RowKit Go.Kx Go.Fr
theorem WPL_turn {C : Cx} {ops : Array Oper} {Q : Post} {l : List Oper} {env : Env} {loc : List Ent} {t : Nat} {p q : SP} (ht : Fr.look t env = some p) (hi : Im p q) (h : WPL C ops Q l ((t, q) :: env) loc) : WPL C ops Q l env loc :=
  ⟨fun F a w hR => h.out F a w ⟨hR.good, fun t' p' h' => by
    unfold Fr.look at h'
    split at h'
    · rename_i e
      cases h'
      have e' : t = t' := by have := Nat.eq_of_beq_eq_true e; omega
      subst e'
      exact hi _ _ _ (hR.env _ _ ht)
    · exact hR.env _ _ h', hR.size, hR.defers, hR.ch, hR.own, hR.grow⟩⟩
set_option maxHeartbeats 2000000 in
set_option maxRecDepth 100000 in
theorem sane14_mid (z : RulesD) (hzf : z.few = true) (hzc : z.check freeF = 0) (w0 : World) (F0 : Nat → Prop) (out : List Ent) (b1 b6 b7 b8 : Nat) (oa1 oa2 a1 a2 d1 d2 : Option Addr) (c1 c2 ca1 ca2 cd1 cd2 : Nat) :
    WP ⟨Tryd.prog, w0, F0, footX [Tab], out, Tryd.f7.ntmps, []⟩ (rights 6 (Tryd.f7.body.getD .skip)) (retP ⟨Tryd.prog, w0, F0, footX [Tab], out, Tryd.f7.ntmps, []⟩ Tryd.f7 (fun p loc => p = exB true ∧ loc = []))
      [(1, ex (.pointer (some ⟨b1, 0, none⟩))), (3, exB true), (5, exI .i64 140), (6, ex (.pointer (some ⟨b6, 0, none⟩))), (7, ex (.pointer (some ⟨b7, 0, none⟩))), (8, ex (.pointer (some ⟨b8, 0, none⟩)))]
      [row b8 28 9 [exT [99, 117, 112], ex (.slice oa1 2 c1), ex (.slice none 0 0), ex (.slice none 0 0), isl eTie RulesD.layT, ex (.slice oa2 2 c2), ex (.slice none 0 0), ex (.slice none 0 0), exI .i64 0], row b7 28 9 [exT [99, 117, 112], ex (.slice d1 2 cd1), ex (.slice none 0 0), ex (.slice none 0 0), isl eTie RulesD.layT, ex (.slice d2 2 cd2), ex (.slice none 0 0), ex (.slice none 0 0), exI .i64 0], row b6 28 9 [exT [99, 117, 112], ex (.slice a1 2 ca1), ex (.slice none 0 0), ex (.slice none 0 0), isl eTie RulesD.layT, ex (.slice a2 2 ca2), ex (.slice none 0 0), ex (.slice none 0 0), exI .i64 0], vec (.slice oa2 2 c2) 49 13 2 (RulesD.layR.flatMap (roundV 2)), vec (.slice oa1 2 c1) 55 7 2 (RulesD.layC.flatMap critV), vec (.slice d2 2 cd2) 49 13 2 (RulesD.layR.flatMap (roundV 2)), vec (.slice d1 2 cd1) 55 7 2 (RulesD.layC.flatMap critV), vec (.slice a2 2 ca2) 49 13 2 (RulesD.layR.flatMap (roundV 2)), vec (.slice a1 2 ca1) 55 7 2 (RulesD.layC.flatMap critV), row b1 28 9 (rulesV 2 z), Tab] := by
  refine WP_leads (Leads_fcell (j := 7) (k := 2) (i := 5) (E := eRound 2) (fs := roundV 2) RulesD.layR rfl rfl rfl rfl rfl rfl (hby := by decide)) ?_
  refine WP_leads (Leads_fcell (j := 6) (k := 1) (i := 1) (E := eCrit) (fs := critV) RulesD.layC rfl rfl rfl rfl rfl rfl (hby := by decide)) ?_
  refine WP_leads (Leads_fcell (j := 4) (k := 0) (i := 1) (E := eCrit) (fs := critV) RulesD.layC rfl rfl rfl rfl rfl rfl (hby := by decide)) ?_
  refine WP_vec3 (k := 3) rfl (by omega) fun b8r k8 hv hn8 hm8 => ?_
  cases hv
  refine WP_vec3 (k := 4) rfl (by omega) fun b7r k7 hv hn7 hm7 => ?_
  cases hv
  refine WP_vec3 (k := 5) rfl (by omega) fun b6c k6 hv hn6 hm6 => ?_
  cases hv
  generalize hp8 : RulesD.layR.flatMap (roundV 2) = p8
  generalize hp6 : RulesD.layC.flatMap critV = p6
  have l8 : p8.length = 26 := by rw [← hp8]; rfl
  have l6 : p6.length = 14 := by rw [← hp6]; rfl
  refine WP_cutR 7 (fun _ : Unit => ([(1, ex (.pointer (some ⟨b1, 0, none⟩))), (3, exB true), (5, exI .i64 140), (6, ex (.pointer (some ⟨b6, 0, none⟩))), (7, ex (.pointer (some ⟨b7, 0, none⟩))), (8, ex (.pointer (some ⟨b8, 0, none⟩)))], [row b8 28 9 [exT [99, 117, 112], isl eCrit RulesD.layC, ex (.slice none 0 0), ex (.slice none 0 0), isl eTie RulesD.layT, ex (.slice (some ⟨b8r, 0, none⟩) 2 c2), ex (.slice none 0 0), ex (.slice none 0 0), exI .i64 0], row b7 28 9 [exT [99, 117, 112], isl eCrit RulesD.layC, ex (.slice none 0 0), ex (.slice none 0 0), isl eTie RulesD.layT, ex (.slice (some ⟨b7r, 0, none⟩) 2 cd2), ex (.slice none 0 0), ex (.slice none 0 0), exI .i64 0], row b6 28 9 [exT [99, 117, 112], ex (.slice (some ⟨b6c, 0, none⟩) 2 ca1), ex (.slice none 0 0), ex (.slice none 0 0), isl eTie RulesD.layT, isl (eRound 2) RulesD.layR, ex (.slice none 0 0), ex (.slice none 0 0), exI .i64 0], row b8r 49 (c2 * 13) (p8.set 0 (exT [102, 105, 110, 97, 108])), row b7r 49 (cd2 * 13) (p8.set 11 (exT [110, 111, 110, 101])), row b6c 55 (ca1 * 7) (p6.set 0 (exT [109, 101, 97, 110])), row b1 28 9 (rulesV 2 z), Tab])) (fun _ => True) ?_ fun _ _ => ?_
  · skip
    (refine WP_draw ([row b8 28 9 [exT [99, 117, 112], isl eCrit RulesD.layC, ex (.slice none 0 0), ex (.slice none 0 0), isl eTie RulesD.layT, ex (.slice (some ⟨b8r, 0, none⟩) 2 c2), ex (.slice none 0 0), ex (.slice none 0 0), exI .i64 0], row b7 28 9 [exT [99, 117, 112], isl eCrit RulesD.layC, ex (.slice none 0 0), ex (.slice none 0 0), isl eTie RulesD.layT, ex (.slice (some ⟨b7r, 0, none⟩) 2 cd2), ex (.slice none 0 0), ex (.slice none 0 0), exI .i64 0], row b6 28 9 [exT [99, 117, 112], ex (.slice (some ⟨b6c, 0, none⟩) 2 ca1), ex (.slice none 0 0), ex (.slice none 0 0), isl eTie RulesD.layT, isl (eRound 2) RulesD.layR, ex (.slice none 0 0), ex (.slice none 0 0), exI .i64 0]]) 15 rfl ?_)
    all_goals ((apply WPY_pure 0 rfl (by decide +kernel) rfl (by repeat (first | exact np_ret)) guard_none; (first | (apply g_fld; first | exact WT_field rfl rfl rfl)); exact rfl))
    all_goals ((apply WPY_take 1 rfl (by decide +kernel) rfl (by decide +kernel) (by repeat (first | exact np_ret)) guard_none; (first | (apply g_load; first | exact WT_load (k := 2) rfl rfl rfl rfl)); exact rfl))
    all_goals ((apply WPY_pure 2 rfl (by decide +kernel) rfl (by repeat (first | exact np_ret)) guard_none; (first | (apply g_fld; first | exact WT_field rfl rfl rfl)); exact rfl))
    all_goals ((apply WPY_take 3 rfl (by decide +kernel) rfl (by decide +kernel) (by repeat (first | exact np_ret)) guard_none; (first | (apply g_load; first | exact WT_load (k := 1) rfl rfl rfl rfl)); exact rfl))
    all_goals ((apply WPY_pure 4 rfl (by decide +kernel) rfl (by repeat (first | exact np_ret)) guard_none; (first | (apply g_fld; first | exact WT_field rfl rfl rfl)); exact rfl))
    all_goals ((apply WPY_take 5 rfl (by decide +kernel) rfl (by decide +kernel) (by repeat (first | exact np_ret)) guard_none; (first | (apply g_load; first | exact WT_load (k := 0) rfl rfl rfl rfl)); exact rfl))
    all_goals ((apply WPY_pure 6 rfl (by decide +kernel) rfl (by repeat (first | exact np_ret)) guard_none; (first | (apply g_index; first | exact WT_indexo rfl rfl rfl)); exact rfl))
    all_goals ((apply WPY_pure 7 rfl (by decide +kernel) rfl (by repeat (first | exact np_ret)) guard_none; (first | (apply g_fld; first | exact WT_field rfl rfl rfl)); exact rfl))
    all_goals (first | (apply WPY_one 8; exact (by decide +kernel); exact rfl; exact guard_none; exact (fun _ _ h => h); first | (apply g_store; refine WO_store1 (k := 5) (hH := (by repeat (first | exact List.nil_sublist _ | apply List.Sublist.cons_cons))) rfl rfl rfl ?_)))
    all_goals ((apply WPY_pure 9 rfl (by decide +kernel) rfl (by repeat (first | exact np_ret)) guard_none; (first | (apply g_index; first | exact WT_indexo rfl rfl rfl)); exact rfl))
    all_goals ((apply WPY_pure 10 rfl (by decide +kernel) rfl (by repeat (first | exact np_ret)) guard_none; (first | (apply g_fld; first | exact WT_field rfl rfl rfl)); exact rfl))
    all_goals (first | (apply WPY_one 11; exact (by decide +kernel); exact rfl; exact guard_none; exact (fun _ _ h => h); first | (apply g_store; refine WO_store1 (k := 4) (hH := (by repeat (first | exact List.nil_sublist _ | apply List.Sublist.cons_cons))) rfl rfl rfl ?_)))
    all_goals ((apply WPY_pure 12 rfl (by decide +kernel) rfl (by repeat (first | exact np_ret)) guard_none; (first | (apply g_index; first | exact WT_indexo rfl rfl rfl)); exact rfl))
    all_goals ((apply WPY_pure 13 rfl (by decide +kernel) rfl (by repeat (first | exact np_ret)) guard_none; (first | (apply g_fld; first | exact WT_field rfl rfl rfl)); exact rfl))
    all_goals (first | (apply WPY_one 14; exact (by decide +kernel); exact rfl; exact guard_none; exact (fun _ _ h => h); first | (apply g_store; refine WO_store1 (k := 3) (hH := (by repeat (first | exact List.nil_sublist _ | apply List.Sublist.cons_cons))) rfl rfl rfl ?_)))
    all_goals (refine WPY_done (by decide +kernel) ?_)
    exact cut_here () trivial (Leads_env (by repeat (first | exact sub_nil | refine sub_cons rfl ?_)) (List.Sublist.refl _))
  rw [show p8.set 0 (exT [102, 105, 110, 97, 108]) = RulesD.layD.rounds.flatMap (roundV 2) by rw [← hp8]; rfl, show p8.set 11 (exT [110, 111, 110, 101]) = RulesD.layB.rounds.flatMap (roundV 2) by rw [← hp8]; rfl, show p6.set 0 (exT [109, 101, 97, 110]) = RulesD.layA.crits.flatMap critV by rw [← hp6]; rfl]
  clear hp8 hp6 l8 l6 p8 p6
  refine WP_leads (Leads_row_vec (k := 3) (sz := 13) (n := 2) (c := c2) rfl rfl rfl (by decide) hm8 (Leads_row_vec (k := 4) (sz := 13) (n := 2) (c := cd2) rfl rfl rfl (by decide) hm7 (Leads_row_vec (k := 5) (sz := 7) (n := 2) (c := ca1) rfl rfl rfl (by decide) hm6 Leads.refl))) ?_
  refine WP_leads (Leads_fcell (j := 5) (k := 2) (i := 1) (E := eCrit) (fs := critV) RulesD.layA.crits rfl rfl rfl rfl rfl rfl (hby := by decide)) ?_
  refine WP_leads (Leads_fcell (j := 4) (k := 1) (i := 5) (E := eRound 2) (fs := roundV 2) RulesD.layB.rounds rfl rfl rfl rfl rfl rfl (hby := by decide)) ?_
  refine WP_leads (Leads_fcell (j := 3) (k := 0) (i := 5) (E := eRound 2) (fs := roundV 2) RulesD.layD.rounds rfl rfl rfl rfl rfl rfl (hby := by decide)) ?_
  exact sane14_rest z hzf hzc w0 F0 out b1 b6 b7 b8
end Go.Proofs.YtjjjblegnjiaoaaDoor

/- The laws' own test of the reference: sane. -/
-- STRINGS
-- ROWS
namespace Go.Proofs.YtjjjblegnjiaoaaDoor
open Go Go.RowKit Go.Kx Go.Fr
theorem sane_facts : ∃ z : RulesD, RulesD.lay.resolve freeF = (z, 0) ∧ z.few = true ∧ z.check freeF = 0 ∧ ∃ (e1 : z.ties.length = 2) (e2 : z.rounds.length = 2) (e3 : (z.ties[0]'(by omega)).keys.length = 3) (e4 : (z.ties[1]'(by omega)).keys.length = 1) (e5 : (z.rounds[1]'(by omega)).score.l.length = 2), ((z.ties[0]'(by omega)).keys[0]'(by omega)).n = 1 ∧ ((z.ties[0]'(by omega)).keys[1]'(by omega)).n = 0 ∧ ((z.ties[1]'(by omega)).keys[0]'(by omega)).n = 0 ∧ (z.rounds[0]'(by omega)).score.n = 1 ∧ (z.rounds[0]'(by omega)).tieNo = -1 ∧ (z.rounds[1]'(by omega)).tieNo = 1 ∧ ((z.rounds[1]'(by omega)).score.l[0]'(by omega)).n = 0 ∧ ((z.rounds[1]'(by omega)).score.l[1]'(by omega)).n = 0 :=
  ⟨RulesD.lay.resolved, RulesD.res_lay.1, RulesD.few_lay.2.2.2.2.2.2.2, RulesD.chk_lay.2.1, by decide +kernel, by decide +kernel, by decide +kernel, by decide +kernel, by decide +kernel, by decide +kernel, by decide +kernel, by decide +kernel, by decide +kernel, by decide +kernel, by decide +kernel, by decide +kernel, by decide +kernel⟩
set_option maxHeartbeats 2000000 in
set_option maxRecDepth 100000 in
theorem sane14_any : FnC Tryd.prog 7 [] [Tab] (fun p loc => p = exB true ∧ loc = []) := by
  have h1 := nresolve_any 2 RulesD.lay RulesD.few_lay.1
  obtain ⟨z, hz, hzf, hzc, e1, e2, e3, e4, e5, f1, f2, f3, f4, f5, f6, f7, f8⟩ := sane_facts
  rw [hz] at h1
  simp only at h1
  have h2 : FnC Tryd.prog 9 [agg [ex (.string .empty), ex (.slice none 0 0), ex (.slice none 0 0), ex (.slice none 0 0), ex (.slice none 0 0), ex (.slice none 0 0), ex (.slice none 0 0), ex (.slice none 0 0), exI .i64 0]] [Tab] (fun p loc => p = tup [rul 2 RulesD.zero, exI .i64 140] ∧ loc = []) := by
    have h := nresolve_any 2 RulesD.zero RulesD.few_lay.2.1
    rw [RulesD.res_lay.2.1] at h
    exact FnC_args h (.cons (Ims.agg (by repeat (first | exact Ims.nil | refine Ims.cons Im.nil ?_ | refine Ims.cons (Im.refl _) ?_))) .nil)
  refine FnC_enter Tryd.func7 rfl Tryd.ntmps7 rfl fun w0 F0 out => ?_
  (repeat' (first | (apply cut_at 4; refine Stop.out ?_) | refine WP_seq ?_ | refine WP_region ?_ | refine WPL_nil ?_ | (apply WPL_t; (first | exact WT_move rfl | exact WT_assign rfl | exact WT_pick (b := false) rfl (fun e => by cases e) (fun _ => rfl) | exact WT_extract rfl rfl | (apply g_bin; first | exact WT_neq rfl rfl)); exact rfl) | (apply WPL_gt; exact rfl; exact rfl; exact rfl; (first | (apply g_load; first | exact WT_loadf rfl rfl | exact WT_load (k := 0) rfl rfl rfl rfl) | (apply g_fld; first | exact WT_field rfl rfl rfl | exact WT_fieldf rfl rfl rfl) | (apply g_bin; first | exact WT_neq rfl rfl) | (apply g_index; first | exact WT_index rfl rfl rfl) | (apply g_call; first | exact WT_len rfl rfl)); exact rfl) | refine WP_skip ?_ | (apply WPL_op0; exact rfl; first | (apply g_callf; first | (refine WO_call Tryd.func21 rfl rules14_any rfl ?_; rintro _ _ ⟨rfl, rfl⟩) | (refine WO_callG (.dup 0 rfl rfl .nil) Tryd.func9 rfl h1 rfl ?_; rintro _ _ ⟨rfl, rfl⟩)) | (apply g_alloc; refine WO_alloc ?_; intro _) | (apply g_store; first | refine WO_store (k := 0) (l0 := []) rfl rfl rfl ?_)) | (refine WPL_case rfl rfl (fun hb => ?_) (fun hb => ?_) <;> (repeat (first | replace hb := dec_t hb | replace hb := dec_f hb | replace hb := not_t hb | replace hb := not_f hb)) <;> (try (exfalso; first | omega))) | (refine WP_cond rfl (fun hb => ?_) (fun hb => ?_) <;> (repeat (first | replace hb := dec_t hb | replace hb := dec_f hb | replace hb := not_t hb | replace hb := not_f hb)) <;> (try (exfalso; first | omega)))))
  rename_i b1 _ _ _ _
  constructor
  refine WP_leads (env' := [(1, ex (.pointer (some ⟨b1, 0, none⟩))), (2, exI .i64 0)]) (loc' := [row b1 28 9 (rulesV 2 z), Tab]) (Leads_env (by repeat (first | exact sub_nil | refine sub_cons rfl ?_)) (List.Sublist.refl _)) ?_
  (repeat' (first | (apply at_dst 127; refine Stop.out ?_) | refine WP_seq ?_ | refine WP_region ?_ | (apply WPL_t; (first | exact WT_move rfl | exact WT_pick (b := true) rfl (fun _ => rfl) (fun e => by cases e) | (apply g_load; first | exact WT_loadf rfl rfl | exact WT_load (k := 0) rfl rfl rfl rfl) | (apply g_fld; first | exact WT_field rfl rfl rfl | exact WT_fieldf rfl rfl rfl) | (apply g_bin; first | exact WT_eql rfl rfl) | (apply g_index; first | exact WT_index rfl rfl rfl)); exact rfl) | (apply WPL_gt; exact rfl; exact rfl; exact rfl; (first | (apply g_load; first | exact WT_loadf rfl rfl | exact WT_load (k := 0) rfl rfl rfl rfl) | (apply g_fld; first | exact WT_field rfl rfl rfl | exact WT_fieldf rfl rfl rfl) | (apply g_bin; first | exact WT_eql rfl rfl) | (apply g_index; first | exact WT_index rfl rfl rfl)); exact rfl) | (refine WPL_case rfl rfl (fun hb => ?_) (fun hb => ?_) <;> (repeat (first | replace hb := dec_t hb | replace hb := dec_f hb)) <;> (try (exfalso; first | omega)))))
  constructor
  refine WPL_turn (t := 126) (q := isl (eEx 1) (z.rounds[1]'(by omega)).score.l) rfl (Im.refl _) ?_
  (repeat' (first | (apply at_dst 139; refine Stop.out ?_) | (apply WPL_t; (first | exact WT_move rfl | exact WT_pick (b := true) rfl (fun _ => rfl) (fun e => by cases e)); exact rfl) | (apply WPL_gt; exact rfl; exact rfl; exact rfl; (first | (apply g_load; first | exact WT_loadf rfl rfl | exact WT_load (k := 0) rfl rfl rfl rfl) | (apply g_fld; first | exact WT_field rfl rfl rfl | exact WT_fieldf rfl rfl rfl) | (apply g_bin; first | exact WT_eql rfl rfl) | (apply g_index; first | exact WT_index rfl rfl rfl)); exact rfl) | (refine WPL_case rfl rfl (fun hb => ?_) (fun hb => ?_) <;> (repeat (first | replace hb := dec_t hb | replace hb := dec_f hb)) <;> (try (exfalso; first | omega)))))
  constructor
  refine WPL_turn (t := 138) (q := isl (eEx 1) (z.rounds[1]'(by omega)).score.l) rfl (Im.refl _) ?_
  (repeat' (first | (apply cut_at 5; refine Stop.out ?_) | refine WPL_nil ?_ | (apply WPL_t; (first | exact WT_assign rfl | exact WT_pick (b := true) rfl (fun _ => rfl) (fun e => by cases e)); exact rfl) | (apply WPL_gt; exact rfl; exact rfl; exact rfl; (first | (apply g_load; first | exact WT_loadf rfl rfl) | (apply g_fld; first | exact WT_fieldf rfl rfl rfl) | (apply g_bin; first | exact WT_eql rfl rfl) | (apply g_index; first | exact WT_index rfl rfl rfl)); exact rfl)))
  constructor
  refine WP_leads (env' := [(1, ex (.pointer (some ⟨b1, 0, none⟩))), (2, exI .i64 0), (3, exB true)]) (loc' := [row b1 28 9 (rulesV 2 z), Tab]) (Leads_env (sub_cons rfl (sub_cons rfl (sub_cons (congrArg (fun b => some (exB b)) (decide_eq_true f8)) sub_nil))) (List.Sublist.refl _)) ?_
  (repeat' (first | (apply cut_at 6; refine Stop.out ?_) | refine WP_seq ?_ | refine WP_region ?_ | refine WPL_nil ?_ | (apply WPL_t; (first | exact WT_move rfl | exact WT_assign rfl | exact WT_extract rfl rfl | (apply g_build; first | exact WT_build2 rfl rfl (by repeat (first | exact PartsO.nil)))); exact rfl) | (apply WPL_op0; exact rfl; first | (apply g_callf; first | (refine WO_callG (.dup 1 rfl rfl .nil) Tryd.func9 rfl h2 rfl ?_; rintro _ _ ⟨rfl, rfl⟩)) | (apply g_alloc; refine WO_alloc ?_; intro _) | (apply g_store; first | refine WO_store (k := 0) (l0 := []) rfl rfl rfl ?_))))
  constructor
  refine WP_leads (env' := [(1, ex (.pointer (some ⟨b1, 0, none⟩))), (3, exB true), (5, exI .i64 140)]) (loc' := [row b1 28 9 (rulesV 2 z), Tab]) (Leads_env (by repeat (first | exact sub_nil | refine sub_cons rfl ?_)) (.cons _ (List.Sublist.refl _))) ?_
  (repeat' (first | (apply cut_at 7; refine Stop.out ?_) | refine WP_seq ?_ | refine WP_region ?_ | refine WPL_nil ?_ | (apply WPL_op0; exact rfl; first | (apply g_callf; first | (refine WO_call Tryd.func21 rfl rules14_own rfl ?_; rintro _ _ ⟨oa1, c1, oa2, c2, rfl, rfl⟩)) | (apply g_alloc; refine WO_alloc ?_; intro _) | (apply g_store; first | refine WO_store (k := 0) (l0 := []) rfl rfl rfl ?_ | refine WO_store (k := 1) (l0 := []) rfl rfl rfl ?_ | refine WO_store (k := 2) (l0 := []) rfl rfl rfl ?_))))
  rename_i a1 ca1 a2 ca2 d1 cd1 d2 cd2 b6 b7 b8
  constructor
  refine WP_leads (env' := [(1, ex (.pointer (some ⟨b1, 0, none⟩))), (3, exB true), (5, exI .i64 140), (6, ex (.pointer (some ⟨b6, 0, none⟩))), (7, ex (.pointer (some ⟨b7, 0, none⟩))), (8, ex (.pointer (some ⟨b8, 0, none⟩)))]) (loc' := [row b8 28 9 [exT [99, 117, 112], ex (.slice oa1 2 c1), ex (.slice none 0 0), ex (.slice none 0 0), isl eTie RulesD.layT, ex (.slice oa2 2 c2), ex (.slice none 0 0), ex (.slice none 0 0), exI .i64 0], row b7 28 9 [exT [99, 117, 112], ex (.slice d1 2 cd1), ex (.slice none 0 0), ex (.slice none 0 0), isl eTie RulesD.layT, ex (.slice d2 2 cd2), ex (.slice none 0 0), ex (.slice none 0 0), exI .i64 0], row b6 28 9 [exT [99, 117, 112], ex (.slice a1 2 ca1), ex (.slice none 0 0), ex (.slice none 0 0), isl eTie RulesD.layT, ex (.slice a2 2 ca2), ex (.slice none 0 0), ex (.slice none 0 0), exI .i64 0], vec (.slice oa2 2 c2) 49 13 2 (RulesD.layR.flatMap (roundV 2)), vec (.slice oa1 2 c1) 55 7 2 (RulesD.layC.flatMap critV), vec (.slice d2 2 cd2) 49 13 2 (RulesD.layR.flatMap (roundV 2)), vec (.slice d1 2 cd1) 55 7 2 (RulesD.layC.flatMap critV), vec (.slice a2 2 ca2) 49 13 2 (RulesD.layR.flatMap (roundV 2)), vec (.slice a1 2 ca1) 55 7 2 (RulesD.layC.flatMap critV), row b1 28 9 (rulesV 2 z), Tab]) (Leads_env (by repeat (first | exact sub_nil | refine sub_cons rfl ?_)) (List.Sublist.refl _)) ?_
  exact sane14_mid z hzf hzc w0 F0 out b1 b6 b7 b8 oa1 oa2 a1 a2 d1 d2 c1 c2 ca1 ca2 cd1 cd2
end Go.Proofs.YtjjjblegnjiaoaaDoor

/- The specification's lists of names. -/
-- STRINGS
namespace Go.Proofs.YtjjjblegnjiaoaaDoor
open Go Go.RowKit Go.Kx Go.Fr

instance {s : List UInt8} : Scs (strV s) := by unfold strV; infer_instance
theorem flat_str_succ {α : Type} {l : List α} {f : α → List UInt8} {i : Nat} (h : i < l.length) : ((l.take (i + 1)).map f).flatMap strV = ((l.take i).map f).flatMap strV ++ [exT (f l[i])] := by
  rw [List.take_succ_eq_append_getElem h, List.map_append, List.flatMap_append]; rfl

set_option maxHeartbeats 4000000 in
set_option maxRecDepth 100000 in
theorem names14_any (k : Nat) (r : RulesD) (hsm : r.bonus.length ≤ 70 ∧ r.malus.length ≤ 70) : FnC Tryd.prog 14 [rul k r] [] (fun p loc => p = agg (nmsV r.n0 r.n1 r.n2 r.n3) ∧ loc = []) := by
  refine FnC_says (i := 0) rfl (Says_agg (i := 1) rfl Says_isl) fun hc => ?_
  refine FnC_says (i := 0) rfl (Says_agg (i := 4) rfl Says_isl) fun ht => ?_
  refine FnC_says (i := 0) rfl (Says_agg (i := 5) rfl Says_isl) fun hr => ?_
  obtain ⟨hsm1, hsm2⟩ := hsm
  obtain ⟨hc, hcb⟩ := hc
  obtain ⟨ht, htb⟩ := ht
  obtain ⟨hr, hrb⟩ := hr
  simp only [maxLen] at hc ht hr
  have hcb : r.crits.length * 64 ≤ 140737488355328 := hcb
  have htb : r.ties.length * 40 ≤ 140737488355328 := htb
  have hrb : r.rounds.length * 136 ≤ 140737488355328 := hrb
  refine FnC_enter Tryd.func14 rfl Tryd.ntmps14 rfl fun w0 F0 out => ?_
  (repeat' (first | refine WP_seq ?_ | refine WP_region ?_ | refine WPL_nil ?_ | (apply WPL_t; (first | exact WT_assign rfl); exact rfl) | refine WP_block ?_ | (apply WPL_op0; exact rfl; first | (apply g_box; refine WO_box rfl ?_; intro _) | (apply g_alloc; refine WO_alloc ?_; intro _))))
  rename_i b1 b2 b3
  refine WP_loop (fun s : Nat × Value => ([(1, ex (.pointer (some ⟨b1, 0, none⟩))), (2, ex (.pointer (some ⟨b2, 0, none⟩))), (3, ex (.pointer (some ⟨b3, 0, none⟩))), (4, exI .i64 (s.1 : Int))], [vec s.2 9 1 s.1 (((r.crits.take s.1).map (·.name)).flatMap strV), row b3 37 4 [ex s.2, ex (.slice none 0 0), ex (.slice none 0 0), ex (.slice none 0 0)], row b2 37 4 [ex (.slice none 0 0), ex (.slice none 0 0), ex (.slice none 0 0), ex (.slice none 0 0)], row b1 28 9 (rulesV k r)])) (fun s => s.1 ≤ r.crits.length) (fun s => r.crits.length - s.1) (0, .slice none 0 0) ?_ (Nat.zero_le _) fun s hs => ?_
  · exact Leads_nilv 9 1 (Leads_env (by repeat (first | exact sub_nil | refine sub_cons rfl ?_)) (List.Sublist.refl _))
  obtain ⟨i, v⟩ := s
  simp only at hs ⊢
  by_cases hlt : i < r.crits.length
  · (repeat' (first | refine WP_seq ?_ | refine WP_region ?_ | refine WPL_nil ?_ | (apply WPL_t; (first | exact WT_move rfl | (apply g_load; first | exact WT_load (k := 3) rfl rfl rfl rfl) | (apply g_fld; first | exact WT_field rfl rfl rfl) | (apply g_bin; first | exact WT_lss rfl rfl) | (apply g_call; first | exact WT_len rfl rfl)); exact rfl) | refine WP_block ?_ | refine WP_skip ?_ | (refine WP_cond rfl (fun hb => ?_) (fun hb => ?_) <;> (repeat (first | replace hb := dec_t hb | replace hb := dec_f hb)) <;> (try (exfalso; first | omega)))))
    all_goals (try (exfalso; omega))
    refine WP_cut1 (fun v2 : Value => ([(1, ex (.pointer (some ⟨b1, 0, none⟩))), (2, ex (.pointer (some ⟨b2, 0, none⟩))), (3, ex (.pointer (some ⟨b3, 0, none⟩))), (4, exI .i64 (i : Int))], [vec v2 9 1 (i + 1) ((((r.crits.take i).map (·.name)).flatMap strV) ++ [exT r.crits[i].name]), row b3 37 4 [ex v2, ex (.slice none 0 0), ex (.slice none 0 0), ex (.slice none 0 0)], row b2 37 4 [ex (.slice none 0 0), ex (.slice none 0 0), ex (.slice none 0 0), ex (.slice none 0 0)], row b1 28 9 (rulesV k r)])) (fun _ => True) ?_ fun v2 _ => ?_
    · skip
      (refine WP_drawl 9 rfl ?_)
      (try (first | (refine WPY_vv (k := 1) rfl (by omega) ?_; intro _ _ hv _ _; subst hv)))
      (apply WPY_pure 0 rfl (by decide +kernel) rfl (by repeat (first | exact np_ret)) guard_none; (first | (apply g_index; first | exact WT_indexa rfl rfl rfl)); exact rfl)
      (try (first | (refine WPY_vv (k := 1) rfl (by omega) ?_; intro _ _ hv _ _; subst hv)))
      (apply WPY_take 1 rfl (by decide +kernel) rfl (by decide +kernel) (by repeat (first | exact np_ret)) guard_none; (first | (apply g_load; first | exact WT_load (k := 1) rfl rfl rfl rfl)); exact rfl)
      (try (first | (refine WPY_vv (k := 1) rfl (by omega) ?_; intro _ _ hv _ _; subst hv)))
      (apply WPY_pure 2 rfl (by decide +kernel) rfl (by repeat (first | exact np_ret)) guard_none; (first | (apply g_fld; first | exact WT_field rfl rfl rfl)); exact rfl)
      (try (first | (refine WPY_vv (k := 1) rfl (by omega) ?_; intro _ _ hv _ _; subst hv)))
      (apply WPY_pure 4 rfl (by decide +kernel) rfl (by repeat (first | exact np_ret)) guard_none; (first | exact WT_move rfl); exact rfl)
      (try (first | (refine WPY_vv (k := 1) rfl (by omega) ?_; intro _ _ hv _ _; subst hv)))
      (refine WPY_one (H' := fun _ => True) 3 (by decide +kernel) rfl guard_none (fun _ _ _ => trivial) ?_)
      ((apply WO_t (H := fun _ => True); (first | (apply g_load; first | exact WT_load (k := 3) rfl rfl rfl rfl)); exact rfl))
      (try (first | (refine WPY_vv (k := 1) rfl (by omega) ?_; intro _ _ hv _ _; subst hv)))
      (apply WPY_pure 5 rfl (by decide +kernel) rfl (by repeat (first | exact np_ret)) guard_none; (first | (apply g_index; first | exact WT_index rfl rfl rfl)); exact rfl)
      (try (first | (refine WPY_vv (k := 1) rfl (by omega) ?_; intro _ _ hv _ _; subst hv)))
      (apply WPY_pure 6 rfl (by decide +kernel) rfl (by repeat (first | exact np_ret)) guard_none; (first | (apply g_fld; first | exact WT_fieldf rfl rfl rfl)); exact rfl)
      (try (first | (refine WPY_vv (k := 1) rfl (by omega) ?_; intro _ _ hv _ _; subst hv)))
      (refine WPY_one (H' := fun _ => True) 7 (by decide +kernel) rfl guard_none (fun _ _ _ => trivial) ?_)
      ((apply WO_t (H := fun _ => True); (first | (apply g_load; first | exact WT_loadf rfl rfl)); exact rfl))
      (try (first | (refine WPY_vv (k := 1) rfl (by omega) ?_; intro _ _ hv _ _; subst hv)))
      (refine WPY_one 8 (by decide +kernel) rfl guard_none (fun _ _ h => h) ?_)
      (first | (apply g_bslice; (first | refine WO_bslice1 rfl rfl ?_ | refine WO_bslice rfl (by repeat (first | exact PartsO.nil | (apply PartsO.cons; exact rfl; exact inferInstance; exact rfl; exact rfl))) ?_ | refine WO_bslice0 rfl ?_); intro _))
      (try (first | (refine WPY_vv (k := 1) rfl (by omega) ?_; intro _ _ hv _ _; subst hv)))
      (refine WPY_one (H' := feet []) 9 (by decide +kernel) rfl guard_none (fun h => absurd h (by decide)) ?_)
      (first | (apply g_append; (first | (refine WO_append (k := 1) (l0 := []) rfl rfl (by first | exact Src_rowW (k := 0) rfl rfl) rfl ?_)); intro _))
      (try (first | (refine WPY_vv (k := 1) rfl (by omega) ?_; intro _ _ hv _ _; subst hv)))
      (refine WPY_one (H' := fun _ => True) 10 (by decide +kernel) rfl guard_none (fun _ _ _ => trivial) ?_)
      ((apply WO_t (H := fun _ => True); (first | (apply g_index; first | exact WT_indexa rfl rfl rfl)); exact rfl))
      (try (first | (refine WPY_vv (k := 1) rfl (by omega) ?_; intro _ _ hv _ _; subst hv)))
      (refine WPY_one (H' := feet []) 11 (by decide +kernel) rfl guard_none (fun h => absurd h (by decide)) ?_)
      (first | (apply g_store; first | refine WO_store (k := 2) (l0 := []) rfl rfl rfl ?_))
      (try (first | (refine WPY_vv (k := 1) rfl (by omega) ?_; intro _ _ hv _ _; subst hv)))
      refine WPY_done (by decide +kernel) ?_
      exact cut_here _ trivial (Leads_envd 1 (by repeat (first | exact sub_nil | refine sub_cons rfl ?_)) rfl)
    (repeat' (first | refine WP_region ?_ | refine WPL_nil ?_ | (apply WPL_t; (first | exact WT_move rfl | exact WT_assign rfl | (apply g_bin; first | exact WT_add rfl rfl)); exact rfl)))
    refine ⟨(i + 1, v2), by show i + 1 ≤ r.crits.length; omega, by show r.crits.length - (i + 1) < r.crits.length - i; omega, ?_⟩
    simp only [flat_str_succ hlt]
    exact Leads_env (by repeat (first | exact sub_nil | refine sub_cons rfl ?_)) (List.Sublist.refl _)
  have hk9 : i = r.crits.length := by omega
  subst hk9
  rw [List.take_length]
  clear hs hlt
  (repeat' (first | refine WP_seq ?_ | refine WP_region ?_ | refine WPL_nil ?_ | (apply WPL_t; (first | exact WT_move rfl | exact WT_assign rfl | (apply g_load; first | exact WT_load (k := 3) rfl rfl rfl rfl) | (apply g_fld; first | exact WT_field rfl rfl rfl) | (apply g_bin; first | exact WT_lss rfl rfl) | (apply g_call; first | exact WT_len rfl rfl)); exact rfl) | refine WP_block ?_ | refine WP_exit ?_ | (refine WP_cond rfl (fun hb => ?_) (fun hb => ?_) <;> (repeat (first | replace hb := dec_t hb | replace hb := dec_f hb)) <;> (try (exfalso; first | omega)))))
  all_goals (try (exfalso; omega))
  refine WP_loop (fun s : Nat × Value => ([(1, ex (.pointer (some ⟨b1, 0, none⟩))), (2, ex (.pointer (some ⟨b2, 0, none⟩))), (3, ex (.pointer (some ⟨b3, 0, none⟩))), (5, exI .i64 (s.1 : Int))], [vec s.2 9 1 s.1 (((r.bonus.take s.1).map (·.name)).flatMap strV), row b3 37 4 [isl eStr r.n0, ex s.2, ex (.slice none 0 0), ex (.slice none 0 0)], row b2 37 4 [ex (.slice none 0 0), ex (.slice none 0 0), ex (.slice none 0 0), ex (.slice none 0 0)], row b1 28 9 (rulesV k r)])) (fun s => s.1 ≤ r.bonus.length) (fun s => r.bonus.length - s.1) (0, .slice none 0 0) ?_ (Nat.zero_le _) fun s hs => ?_
  · refine (Leads_fcell (j := 0) (k := 0) (i := 0) (E := eStr) r.n0 rfl rfl rfl (by simp [RulesD.n0]) rfl rfl (hby := by show _ * 16 ≤ _; omega)).trans ?_
    exact Leads_nilv 9 1 (Leads_env (by repeat (first | exact sub_nil | refine sub_cons rfl ?_)) (List.Sublist.refl _))
  obtain ⟨i, v⟩ := s
  simp only at hs ⊢
  by_cases hlt : i < r.bonus.length
  · (repeat' (first | refine WP_seq ?_ | refine WP_region ?_ | refine WPL_nil ?_ | (apply WPL_t; (first | exact WT_move rfl | (apply g_load; first | exact WT_load (k := 3) rfl rfl rfl rfl) | (apply g_fld; first | exact WT_field rfl rfl rfl) | (apply g_bin; first | exact WT_lss rfl rfl) | (apply g_call; first | exact WT_len rfl rfl)); exact rfl) | refine WP_block ?_ | refine WP_skip ?_ | (refine WP_cond rfl (fun hb => ?_) (fun hb => ?_) <;> (repeat (first | replace hb := dec_t hb | replace hb := dec_f hb)) <;> (try (exfalso; first | omega)))))
    all_goals (try (exfalso; omega))
    refine WP_cut1 (fun v2 : Value => ([(1, ex (.pointer (some ⟨b1, 0, none⟩))), (2, ex (.pointer (some ⟨b2, 0, none⟩))), (3, ex (.pointer (some ⟨b3, 0, none⟩))), (5, exI .i64 (i : Int))], [vec v2 9 1 (i + 1) ((((r.bonus.take i).map (·.name)).flatMap strV) ++ [exT r.bonus[i].name]), row b3 37 4 [isl eStr r.n0, ex v2, ex (.slice none 0 0), ex (.slice none 0 0)], row b2 37 4 [ex (.slice none 0 0), ex (.slice none 0 0), ex (.slice none 0 0), ex (.slice none 0 0)], row b1 28 9 (rulesV k r)])) (fun _ => True) ?_ fun v2 _ => ?_
    · skip
      (refine WP_drawl 9 rfl ?_)
      (try (first | (refine WPY_vv (k := 1) rfl (by omega) ?_; intro _ _ hv _ _; subst hv)))
      (apply WPY_pure 0 rfl (by decide +kernel) rfl (by repeat (first | exact np_ret)) guard_none; (first | (apply g_index; first | exact WT_indexa rfl rfl rfl)); exact rfl)
      (try (first | (refine WPY_vv (k := 1) rfl (by omega) ?_; intro _ _ hv _ _; subst hv)))
      (apply WPY_take 1 rfl (by decide +kernel) rfl (by decide +kernel) (by repeat (first | exact np_ret)) guard_none; (first | (apply g_load; first | exact WT_load (k := 1) rfl rfl rfl rfl)); exact rfl)
      (try (first | (refine WPY_vv (k := 1) rfl (by omega) ?_; intro _ _ hv _ _; subst hv)))
      (apply WPY_pure 2 rfl (by decide +kernel) rfl (by repeat (first | exact np_ret)) guard_none; (first | (apply g_fld; first | exact WT_field rfl rfl rfl)); exact rfl)
      (try (first | (refine WPY_vv (k := 1) rfl (by omega) ?_; intro _ _ hv _ _; subst hv)))
      (apply WPY_pure 4 rfl (by decide +kernel) rfl (by repeat (first | exact np_ret)) guard_none; (first | exact WT_move rfl); exact rfl)
      (try (first | (refine WPY_vv (k := 1) rfl (by omega) ?_; intro _ _ hv _ _; subst hv)))
      (refine WPY_one (H' := fun _ => True) 3 (by decide +kernel) rfl guard_none (fun _ _ _ => trivial) ?_)
      ((apply WO_t (H := fun _ => True); (first | (apply g_load; first | exact WT_load (k := 3) rfl rfl rfl rfl)); exact rfl))
      (try (first | (refine WPY_vv (k := 1) rfl (by omega) ?_; intro _ _ hv _ _; subst hv)))
      (apply WPY_pure 5 rfl (by decide +kernel) rfl (by repeat (first | exact np_ret)) guard_none; (first | (apply g_index; first | exact WT_index rfl rfl rfl)); exact rfl)
      (try (first | (refine WPY_vv (k := 1) rfl (by omega) ?_; intro _ _ hv _ _; subst hv)))
      (apply WPY_pure 6 rfl (by decide +kernel) rfl (by repeat (first | exact np_ret)) guard_none; (first | (apply g_fld; first | exact WT_fieldf rfl rfl rfl)); exact rfl)
      (try (first | (refine WPY_vv (k := 1) rfl (by omega) ?_; intro _ _ hv _ _; subst hv)))
      (refine WPY_one (H' := fun _ => True) 7 (by decide +kernel) rfl guard_none (fun _ _ _ => trivial) ?_)
      ((apply WO_t (H := fun _ => True); (first | (apply g_load; first | exact WT_loadf rfl rfl)); exact rfl))
      (try (first | (refine WPY_vv (k := 1) rfl (by omega) ?_; intro _ _ hv _ _; subst hv)))
      (refine WPY_one 8 (by decide +kernel) rfl guard_none (fun _ _ h => h) ?_)
      (first | (apply g_bslice; (first | refine WO_bslice1 rfl rfl ?_ | refine WO_bslice rfl (by repeat (first | exact PartsO.nil | (apply PartsO.cons; exact rfl; exact inferInstance; exact rfl; exact rfl))) ?_ | refine WO_bslice0 rfl ?_); intro _))
      (try (first | (refine WPY_vv (k := 1) rfl (by omega) ?_; intro _ _ hv _ _; subst hv)))
      (refine WPY_one (H' := feet []) 9 (by decide +kernel) rfl guard_none (fun h => absurd h (by decide)) ?_)
      (first | (apply g_append; (first | (refine WO_append (k := 1) (l0 := []) rfl rfl (by first | exact Src_rowW (k := 0) rfl rfl) rfl ?_)); intro _))
      (try (first | (refine WPY_vv (k := 1) rfl (by omega) ?_; intro _ _ hv _ _; subst hv)))
      (refine WPY_one (H' := fun _ => True) 10 (by decide +kernel) rfl guard_none (fun _ _ _ => trivial) ?_)
      ((apply WO_t (H := fun _ => True); (first | (apply g_index; first | exact WT_indexa rfl rfl rfl)); exact rfl))
      (try (first | (refine WPY_vv (k := 1) rfl (by omega) ?_; intro _ _ hv _ _; subst hv)))
      (refine WPY_one (H' := feet []) 11 (by decide +kernel) rfl guard_none (fun h => absurd h (by decide)) ?_)
      (first | (apply g_store; first | refine WO_store (k := 2) (l0 := []) rfl rfl rfl ?_))
      (try (first | (refine WPY_vv (k := 1) rfl (by omega) ?_; intro _ _ hv _ _; subst hv)))
      refine WPY_done (by decide +kernel) ?_
      exact cut_here _ trivial (Leads_envd 1 (by repeat (first | exact sub_nil | refine sub_cons rfl ?_)) rfl)
    (repeat' (first | refine WP_region ?_ | refine WPL_nil ?_ | (apply WPL_t; (first | exact WT_move rfl | exact WT_assign rfl | (apply g_bin; first | exact WT_add rfl rfl)); exact rfl)))
    refine ⟨(i + 1, v2), by show i + 1 ≤ r.bonus.length; omega, by show r.bonus.length - (i + 1) < r.bonus.length - i; omega, ?_⟩
    simp only [flat_str_succ hlt]
    exact Leads_env (by repeat (first | exact sub_nil | refine sub_cons rfl ?_)) (List.Sublist.refl _)
  have hk9 : i = r.bonus.length := by omega
  subst hk9
  rw [List.take_length]
  clear hs hlt
  (repeat' (first | refine WP_seq ?_ | refine WP_region ?_ | refine WPL_nil ?_ | (apply WPL_t; (first | exact WT_move rfl | exact WT_assign rfl | (apply g_load; first | exact WT_load (k := 3) rfl rfl rfl rfl) | (apply g_fld; first | exact WT_field rfl rfl rfl) | (apply g_bin; first | exact WT_lss rfl rfl) | (apply g_call; first | exact WT_len rfl rfl)); exact rfl) | refine WP_block ?_ | refine WP_exit ?_ | (refine WP_cond rfl (fun hb => ?_) (fun hb => ?_) <;> (repeat (first | replace hb := dec_t hb | replace hb := dec_f hb)) <;> (try (exfalso; first | omega)))))
  all_goals (try (exfalso; omega))
  refine WP_loop (fun s : Nat × Value => ([(1, ex (.pointer (some ⟨b1, 0, none⟩))), (2, ex (.pointer (some ⟨b2, 0, none⟩))), (3, ex (.pointer (some ⟨b3, 0, none⟩))), (6, exI .i64 (s.1 : Int))], [vec s.2 9 1 (r.bonus.length + s.1) ((r.bonus.map (·.name)).flatMap strV ++ (((r.malus.take s.1).map (·.name)).flatMap strV)), row b3 37 4 [isl eStr r.n0, ex s.2, ex (.slice none 0 0), ex (.slice none 0 0)], row b2 37 4 [ex (.slice none 0 0), ex (.slice none 0 0), ex (.slice none 0 0), ex (.slice none 0 0)], row b1 28 9 (rulesV k r)])) (fun s => s.1 ≤ r.malus.length) (fun s => r.malus.length - s.1) (0, v) ?_ (Nat.zero_le _) fun s hs => ?_
  · simp only [List.take_zero, List.map_nil, List.flatMap_nil, List.append_nil, Nat.add_zero]
    exact Leads_env (by repeat (first | exact sub_nil | refine sub_cons rfl ?_)) (List.Sublist.refl _)
  obtain ⟨i, v⟩ := s
  simp only at hs ⊢
  by_cases hlt : i < r.malus.length
  · (repeat' (first | refine WP_seq ?_ | refine WP_region ?_ | refine WPL_nil ?_ | (apply WPL_t; (first | exact WT_move rfl | (apply g_load; first | exact WT_load (k := 3) rfl rfl rfl rfl) | (apply g_fld; first | exact WT_field rfl rfl rfl) | (apply g_bin; first | exact WT_lss rfl rfl) | (apply g_call; first | exact WT_len rfl rfl)); exact rfl) | refine WP_block ?_ | refine WP_skip ?_ | (refine WP_cond rfl (fun hb => ?_) (fun hb => ?_) <;> (repeat (first | replace hb := dec_t hb | replace hb := dec_f hb)) <;> (try (exfalso; first | omega)))))
    all_goals (try (exfalso; omega))
    refine WP_cut1 (fun v2 : Value => ([(1, ex (.pointer (some ⟨b1, 0, none⟩))), (2, ex (.pointer (some ⟨b2, 0, none⟩))), (3, ex (.pointer (some ⟨b3, 0, none⟩))), (6, exI .i64 (i : Int))], [vec v2 9 1 ((r.bonus.length + i) + 1) (((r.bonus.map (·.name)).flatMap strV ++ (((r.malus.take i).map (·.name)).flatMap strV)) ++ [exT r.malus[i].name]), row b3 37 4 [isl eStr r.n0, ex v2, ex (.slice none 0 0), ex (.slice none 0 0)], row b2 37 4 [ex (.slice none 0 0), ex (.slice none 0 0), ex (.slice none 0 0), ex (.slice none 0 0)], row b1 28 9 (rulesV k r)])) (fun _ => True) ?_ fun v2 _ => ?_
    · skip
      (refine WP_drawl 9 rfl ?_)
      (try (first | (refine WPY_vv (k := 1) rfl (by omega) ?_; intro _ _ hv _ _; subst hv)))
      (apply WPY_pure 0 rfl (by decide +kernel) rfl (by repeat (first | exact np_ret)) guard_none; (first | (apply g_index; first | exact WT_indexa rfl rfl rfl)); exact rfl)
      (try (first | (refine WPY_vv (k := 1) rfl (by omega) ?_; intro _ _ hv _ _; subst hv)))
      (apply WPY_take 1 rfl (by decide +kernel) rfl (by decide +kernel) (by repeat (first | exact np_ret)) guard_none; (first | (apply g_load; first | exact WT_load (k := 1) rfl rfl rfl rfl)); exact rfl)
      (try (first | (refine WPY_vv (k := 1) rfl (by omega) ?_; intro _ _ hv _ _; subst hv)))
      (apply WPY_pure 2 rfl (by decide +kernel) rfl (by repeat (first | exact np_ret)) guard_none; (first | (apply g_fld; first | exact WT_field rfl rfl rfl)); exact rfl)
      (try (first | (refine WPY_vv (k := 1) rfl (by omega) ?_; intro _ _ hv _ _; subst hv)))
      (apply WPY_pure 4 rfl (by decide +kernel) rfl (by repeat (first | exact np_ret)) guard_none; (first | exact WT_move rfl); exact rfl)
      (try (first | (refine WPY_vv (k := 1) rfl (by omega) ?_; intro _ _ hv _ _; subst hv)))
      (refine WPY_one (H' := fun _ => True) 3 (by decide +kernel) rfl guard_none (fun _ _ _ => trivial) ?_)
      ((apply WO_t (H := fun _ => True); (first | (apply g_load; first | exact WT_load (k := 3) rfl rfl rfl rfl)); exact rfl))
      (try (first | (refine WPY_vv (k := 1) rfl (by omega) ?_; intro _ _ hv _ _; subst hv)))
      (apply WPY_pure 5 rfl (by decide +kernel) rfl (by repeat (first | exact np_ret)) guard_none; (first | (apply g_index; first | exact WT_index rfl rfl rfl)); exact rfl)
      (try (first | (refine WPY_vv (k := 1) rfl (by omega) ?_; intro _ _ hv _ _; subst hv)))
      (apply WPY_pure 6 rfl (by decide +kernel) rfl (by repeat (first | exact np_ret)) guard_none; (first | (apply g_fld; first | exact WT_fieldf rfl rfl rfl)); exact rfl)
      (try (first | (refine WPY_vv (k := 1) rfl (by omega) ?_; intro _ _ hv _ _; subst hv)))
      (refine WPY_one (H' := fun _ => True) 7 (by decide +kernel) rfl guard_none (fun _ _ _ => trivial) ?_)
      ((apply WO_t (H := fun _ => True); (first | (apply g_load; first | exact WT_loadf rfl rfl)); exact rfl))
      (try (first | (refine WPY_vv (k := 1) rfl (by omega) ?_; intro _ _ hv _ _; subst hv)))
      (refine WPY_one 8 (by decide +kernel) rfl guard_none (fun _ _ h => h) ?_)
      (first | (apply g_bslice; (first | refine WO_bslice1 rfl rfl ?_ | refine WO_bslice rfl (by repeat (first | exact PartsO.nil | (apply PartsO.cons; exact rfl; exact inferInstance; exact rfl; exact rfl))) ?_ | refine WO_bslice0 rfl ?_); intro _))
      (try (first | (refine WPY_vv (k := 1) rfl (by omega) ?_; intro _ _ hv _ _; subst hv)))
      (refine WPY_one (H' := feet []) 9 (by decide +kernel) rfl guard_none (fun h => absurd h (by decide)) ?_)
      (first | (apply g_append; (first | (refine WO_append (k := 1) (l0 := []) rfl rfl (by first | exact Src_rowW (k := 0) rfl rfl) rfl ?_)); intro _))
      (try (first | (refine WPY_vv (k := 1) rfl (by omega) ?_; intro _ _ hv _ _; subst hv)))
      (refine WPY_one (H' := fun _ => True) 10 (by decide +kernel) rfl guard_none (fun _ _ _ => trivial) ?_)
      ((apply WO_t (H := fun _ => True); (first | (apply g_index; first | exact WT_indexa rfl rfl rfl)); exact rfl))
      (try (first | (refine WPY_vv (k := 1) rfl (by omega) ?_; intro _ _ hv _ _; subst hv)))
      (refine WPY_one (H' := feet []) 11 (by decide +kernel) rfl guard_none (fun h => absurd h (by decide)) ?_)
      (first | (apply g_store; first | refine WO_store (k := 2) (l0 := []) rfl rfl rfl ?_))
      (try (first | (refine WPY_vv (k := 1) rfl (by omega) ?_; intro _ _ hv _ _; subst hv)))
      refine WPY_done (by decide +kernel) ?_
      exact cut_here _ trivial (Leads_envd 1 (by repeat (first | exact sub_nil | refine sub_cons rfl ?_)) rfl)
    (repeat' (first | refine WP_region ?_ | refine WPL_nil ?_ | (apply WPL_t; (first | exact WT_move rfl | exact WT_assign rfl | (apply g_bin; first | exact WT_add rfl rfl)); exact rfl)))
    refine ⟨(i + 1, v2), by show i + 1 ≤ r.malus.length; omega, by show r.malus.length - (i + 1) < r.malus.length - i; omega, ?_⟩
    simp only [flat_str_succ hlt, ← List.append_assoc, ← Nat.add_assoc]
    exact Leads_env (by repeat (first | exact sub_nil | refine sub_cons rfl ?_)) (List.Sublist.refl _)
  have hk9 : i = r.malus.length := by omega
  subst hk9
  rw [List.take_length]
  clear hs hlt
  (repeat' (first | refine WP_seq ?_ | refine WP_region ?_ | refine WPL_nil ?_ | (apply WPL_t; (first | exact WT_move rfl | exact WT_assign rfl | (apply g_load; first | exact WT_load (k := 3) rfl rfl rfl rfl) | (apply g_fld; first | exact WT_field rfl rfl rfl) | (apply g_bin; first | exact WT_lss rfl rfl) | (apply g_call; first | exact WT_len rfl rfl)); exact rfl) | refine WP_block ?_ | refine WP_exit ?_ | (refine WP_cond rfl (fun hb => ?_) (fun hb => ?_) <;> (repeat (first | replace hb := dec_t hb | replace hb := dec_f hb)) <;> (try (exfalso; first | omega)))))
  all_goals (try (exfalso; omega))
  refine WP_loop (fun s : Nat × Value => ([(1, ex (.pointer (some ⟨b1, 0, none⟩))), (2, ex (.pointer (some ⟨b2, 0, none⟩))), (3, ex (.pointer (some ⟨b3, 0, none⟩))), (7, exI .i64 (s.1 : Int))], [vec s.2 9 1 s.1 (((r.ties.take s.1).map (·.name)).flatMap strV), row b3 37 4 [isl eStr r.n0, isl eStr r.n1, ex s.2, ex (.slice none 0 0)], row b2 37 4 [ex (.slice none 0 0), ex (.slice none 0 0), ex (.slice none 0 0), ex (.slice none 0 0)], row b1 28 9 (rulesV k r)])) (fun s => s.1 ≤ r.ties.length) (fun s => r.ties.length - s.1) (0, .slice none 0 0) ?_ (Nat.zero_le _) fun s hs => ?_
  · refine (Leads_fcell (j := 0) (k := 0) (i := 1) (E := eStr) r.n1 rfl rfl (by simp [RulesD.n1, List.flatMap_append]) (by simp [RulesD.n1]) rfl rfl (hby := by show _ * 16 ≤ _; omega)).trans ?_
    exact Leads_nilv 9 1 (Leads_env (by repeat (first | exact sub_nil | refine sub_cons rfl ?_)) (List.Sublist.refl _))
  obtain ⟨i, v⟩ := s
  simp only at hs ⊢
  by_cases hlt : i < r.ties.length
  · (repeat' (first | refine WP_seq ?_ | refine WP_region ?_ | refine WPL_nil ?_ | (apply WPL_t; (first | exact WT_move rfl | (apply g_load; first | exact WT_load (k := 3) rfl rfl rfl rfl) | (apply g_fld; first | exact WT_field rfl rfl rfl) | (apply g_bin; first | exact WT_lss rfl rfl) | (apply g_call; first | exact WT_len rfl rfl)); exact rfl) | refine WP_block ?_ | refine WP_skip ?_ | (refine WP_cond rfl (fun hb => ?_) (fun hb => ?_) <;> (repeat (first | replace hb := dec_t hb | replace hb := dec_f hb)) <;> (try (exfalso; first | omega)))))
    all_goals (try (exfalso; omega))
    refine WP_cut1 (fun v2 : Value => ([(1, ex (.pointer (some ⟨b1, 0, none⟩))), (2, ex (.pointer (some ⟨b2, 0, none⟩))), (3, ex (.pointer (some ⟨b3, 0, none⟩))), (7, exI .i64 (i : Int))], [vec v2 9 1 (i + 1) ((((r.ties.take i).map (·.name)).flatMap strV) ++ [exT r.ties[i].name]), row b3 37 4 [isl eStr r.n0, isl eStr r.n1, ex v2, ex (.slice none 0 0)], row b2 37 4 [ex (.slice none 0 0), ex (.slice none 0 0), ex (.slice none 0 0), ex (.slice none 0 0)], row b1 28 9 (rulesV k r)])) (fun _ => True) ?_ fun v2 _ => ?_
    · skip
      (refine WP_drawl 9 rfl ?_)
      (try (first | (refine WPY_vv (k := 1) rfl (by omega) ?_; intro _ _ hv _ _; subst hv)))
      (apply WPY_pure 0 rfl (by decide +kernel) rfl (by repeat (first | exact np_ret)) guard_none; (first | (apply g_index; first | exact WT_indexa rfl rfl rfl)); exact rfl)
      (try (first | (refine WPY_vv (k := 1) rfl (by omega) ?_; intro _ _ hv _ _; subst hv)))
      (apply WPY_take 1 rfl (by decide +kernel) rfl (by decide +kernel) (by repeat (first | exact np_ret)) guard_none; (first | (apply g_load; first | exact WT_load (k := 1) rfl rfl rfl rfl)); exact rfl)
      (try (first | (refine WPY_vv (k := 1) rfl (by omega) ?_; intro _ _ hv _ _; subst hv)))
      (apply WPY_pure 2 rfl (by decide +kernel) rfl (by repeat (first | exact np_ret)) guard_none; (first | (apply g_fld; first | exact WT_field rfl rfl rfl)); exact rfl)
      (try (first | (refine WPY_vv (k := 1) rfl (by omega) ?_; intro _ _ hv _ _; subst hv)))
      (apply WPY_pure 4 rfl (by decide +kernel) rfl (by repeat (first | exact np_ret)) guard_none; (first | exact WT_move rfl); exact rfl)
      (try (first | (refine WPY_vv (k := 1) rfl (by omega) ?_; intro _ _ hv _ _; subst hv)))
      (refine WPY_one (H' := fun _ => True) 3 (by decide +kernel) rfl guard_none (fun _ _ _ => trivial) ?_)
      ((apply WO_t (H := fun _ => True); (first | (apply g_load; first | exact WT_load (k := 3) rfl rfl rfl rfl)); exact rfl))
      (try (first | (refine WPY_vv (k := 1) rfl (by omega) ?_; intro _ _ hv _ _; subst hv)))
      (apply WPY_pure 5 rfl (by decide +kernel) rfl (by repeat (first | exact np_ret)) guard_none; (first | (apply g_index; first | exact WT_index rfl rfl rfl)); exact rfl)
      (try (first | (refine WPY_vv (k := 1) rfl (by omega) ?_; intro _ _ hv _ _; subst hv)))
      (apply WPY_pure 6 rfl (by decide +kernel) rfl (by repeat (first | exact np_ret)) guard_none; (first | (apply g_fld; first | exact WT_fieldf rfl rfl rfl)); exact rfl)
      (try (first | (refine WPY_vv (k := 1) rfl (by omega) ?_; intro _ _ hv _ _; subst hv)))
      (refine WPY_one (H' := fun _ => True) 7 (by decide +kernel) rfl guard_none (fun _ _ _ => trivial) ?_)
      ((apply WO_t (H := fun _ => True); (first | (apply g_load; first | exact WT_loadf rfl rfl)); exact rfl))
      (try (first | (refine WPY_vv (k := 1) rfl (by omega) ?_; intro _ _ hv _ _; subst hv)))
      (refine WPY_one 8 (by decide +kernel) rfl guard_none (fun _ _ h => h) ?_)
      (first | (apply g_bslice; (first | refine WO_bslice1 rfl rfl ?_ | refine WO_bslice rfl (by repeat (first | exact PartsO.nil | (apply PartsO.cons; exact rfl; exact inferInstance; exact rfl; exact rfl))) ?_ | refine WO_bslice0 rfl ?_); intro _))
      (try (first | (refine WPY_vv (k := 1) rfl (by omega) ?_; intro _ _ hv _ _; subst hv)))
      (refine WPY_one (H' := feet []) 9 (by decide +kernel) rfl guard_none (fun h => absurd h (by decide)) ?_)
      (first | (apply g_append; (first | (refine WO_append (k := 1) (l0 := []) rfl rfl (by first | exact Src_rowW (k := 0) rfl rfl) rfl ?_)); intro _))
      (try (first | (refine WPY_vv (k := 1) rfl (by omega) ?_; intro _ _ hv _ _; subst hv)))
      (refine WPY_one (H' := fun _ => True) 10 (by decide +kernel) rfl guard_none (fun _ _ _ => trivial) ?_)
      ((apply WO_t (H := fun _ => True); (first | (apply g_index; first | exact WT_indexa rfl rfl rfl)); exact rfl))
      (try (first | (refine WPY_vv (k := 1) rfl (by omega) ?_; intro _ _ hv _ _; subst hv)))
      (refine WPY_one (H' := feet []) 11 (by decide +kernel) rfl guard_none (fun h => absurd h (by decide)) ?_)
      (first | (apply g_store; first | refine WO_store (k := 2) (l0 := []) rfl rfl rfl ?_))
      (try (first | (refine WPY_vv (k := 1) rfl (by omega) ?_; intro _ _ hv _ _; subst hv)))
      refine WPY_done (by decide +kernel) ?_
      exact cut_here _ trivial (Leads_envd 1 (by repeat (first | exact sub_nil | refine sub_cons rfl ?_)) rfl)
    (repeat' (first | refine WP_region ?_ | refine WPL_nil ?_ | (apply WPL_t; (first | exact WT_move rfl | exact WT_assign rfl | (apply g_bin; first | exact WT_add rfl rfl)); exact rfl)))
    refine ⟨(i + 1, v2), by show i + 1 ≤ r.ties.length; omega, by show r.ties.length - (i + 1) < r.ties.length - i; omega, ?_⟩
    simp only [flat_str_succ hlt]
    exact Leads_env (by repeat (first | exact sub_nil | refine sub_cons rfl ?_)) (List.Sublist.refl _)
  have hk9 : i = r.ties.length := by omega
  subst hk9
  rw [List.take_length]
  clear hs hlt
  (repeat' (first | refine WP_seq ?_ | refine WP_region ?_ | refine WPL_nil ?_ | (apply WPL_t; (first | exact WT_move rfl | exact WT_assign rfl | (apply g_load; first | exact WT_load (k := 3) rfl rfl rfl rfl) | (apply g_fld; first | exact WT_field rfl rfl rfl) | (apply g_bin; first | exact WT_lss rfl rfl) | (apply g_call; first | exact WT_len rfl rfl)); exact rfl) | refine WP_block ?_ | refine WP_exit ?_ | (refine WP_cond rfl (fun hb => ?_) (fun hb => ?_) <;> (repeat (first | replace hb := dec_t hb | replace hb := dec_f hb)) <;> (try (exfalso; first | omega)))))
  all_goals (try (exfalso; omega))
  refine WP_loop (fun s : Nat × Value => ([(1, ex (.pointer (some ⟨b1, 0, none⟩))), (2, ex (.pointer (some ⟨b2, 0, none⟩))), (3, ex (.pointer (some ⟨b3, 0, none⟩))), (8, exI .i64 (s.1 : Int))], [vec s.2 9 1 s.1 (((r.rounds.take s.1).map (·.name)).flatMap strV), row b3 37 4 [isl eStr r.n0, isl eStr r.n1, isl eStr r.n2, ex s.2], row b2 37 4 [ex (.slice none 0 0), ex (.slice none 0 0), ex (.slice none 0 0), ex (.slice none 0 0)], row b1 28 9 (rulesV k r)])) (fun s => s.1 ≤ r.rounds.length) (fun s => r.rounds.length - s.1) (0, .slice none 0 0) ?_ (Nat.zero_le _) fun s hs => ?_
  · refine (Leads_fcell (j := 0) (k := 0) (i := 2) (E := eStr) r.n2 rfl rfl rfl (by simp [RulesD.n2]) rfl rfl (hby := by show _ * 16 ≤ _; omega)).trans ?_
    exact Leads_nilv 9 1 (Leads_env (by repeat (first | exact sub_nil | refine sub_cons rfl ?_)) (List.Sublist.refl _))
  obtain ⟨i, v⟩ := s
  simp only at hs ⊢
  by_cases hlt : i < r.rounds.length
  · (repeat' (first | refine WP_seq ?_ | refine WP_region ?_ | refine WPL_nil ?_ | (apply WPL_t; (first | exact WT_move rfl | (apply g_load; first | exact WT_load (k := 3) rfl rfl rfl rfl) | (apply g_fld; first | exact WT_field rfl rfl rfl) | (apply g_bin; first | exact WT_lss rfl rfl) | (apply g_call; first | exact WT_len rfl rfl)); exact rfl) | refine WP_block ?_ | refine WP_skip ?_ | (refine WP_cond rfl (fun hb => ?_) (fun hb => ?_) <;> (repeat (first | replace hb := dec_t hb | replace hb := dec_f hb)) <;> (try (exfalso; first | omega)))))
    all_goals (try (exfalso; omega))
    refine WP_cut1 (fun v2 : Value => ([(1, ex (.pointer (some ⟨b1, 0, none⟩))), (2, ex (.pointer (some ⟨b2, 0, none⟩))), (3, ex (.pointer (some ⟨b3, 0, none⟩))), (8, exI .i64 (i : Int))], [vec v2 9 1 (i + 1) ((((r.rounds.take i).map (·.name)).flatMap strV) ++ [exT r.rounds[i].name]), row b3 37 4 [isl eStr r.n0, isl eStr r.n1, isl eStr r.n2, ex v2], row b2 37 4 [ex (.slice none 0 0), ex (.slice none 0 0), ex (.slice none 0 0), ex (.slice none 0 0)], row b1 28 9 (rulesV k r)])) (fun _ => True) ?_ fun v2 _ => ?_
    · skip
      (refine WP_drawl 9 rfl ?_)
      (try (first | (refine WPY_vv (k := 1) rfl (by omega) ?_; intro _ _ hv _ _; subst hv)))
      (apply WPY_pure 0 rfl (by decide +kernel) rfl (by repeat (first | exact np_ret)) guard_none; (first | (apply g_index; first | exact WT_indexa rfl rfl rfl)); exact rfl)
      (try (first | (refine WPY_vv (k := 1) rfl (by omega) ?_; intro _ _ hv _ _; subst hv)))
      (apply WPY_take 1 rfl (by decide +kernel) rfl (by decide +kernel) (by repeat (first | exact np_ret)) guard_none; (first | (apply g_load; first | exact WT_load (k := 1) rfl rfl rfl rfl)); exact rfl)
      (try (first | (refine WPY_vv (k := 1) rfl (by omega) ?_; intro _ _ hv _ _; subst hv)))
      (apply WPY_pure 2 rfl (by decide +kernel) rfl (by repeat (first | exact np_ret)) guard_none; (first | (apply g_fld; first | exact WT_field rfl rfl rfl)); exact rfl)
      (try (first | (refine WPY_vv (k := 1) rfl (by omega) ?_; intro _ _ hv _ _; subst hv)))
      (apply WPY_pure 4 rfl (by decide +kernel) rfl (by repeat (first | exact np_ret)) guard_none; (first | exact WT_move rfl); exact rfl)
      (try (first | (refine WPY_vv (k := 1) rfl (by omega) ?_; intro _ _ hv _ _; subst hv)))
      (refine WPY_one (H' := fun _ => True) 3 (by decide +kernel) rfl guard_none (fun _ _ _ => trivial) ?_)
      ((apply WO_t (H := fun _ => True); (first | (apply g_load; first | exact WT_load (k := 3) rfl rfl rfl rfl)); exact rfl))
      (try (first | (refine WPY_vv (k := 1) rfl (by omega) ?_; intro _ _ hv _ _; subst hv)))
      (apply WPY_pure 5 rfl (by decide +kernel) rfl (by repeat (first | exact np_ret)) guard_none; (first | (apply g_index; first | exact WT_index rfl rfl rfl)); exact rfl)
      (try (first | (refine WPY_vv (k := 1) rfl (by omega) ?_; intro _ _ hv _ _; subst hv)))
      (apply WPY_pure 6 rfl (by decide +kernel) rfl (by repeat (first | exact np_ret)) guard_none; (first | (apply g_fld; first | exact WT_fieldf rfl rfl rfl)); exact rfl)
      (try (first | (refine WPY_vv (k := 1) rfl (by omega) ?_; intro _ _ hv _ _; subst hv)))
      (refine WPY_one (H' := fun _ => True) 7 (by decide +kernel) rfl guard_none (fun _ _ _ => trivial) ?_)
      ((apply WO_t (H := fun _ => True); (first | (apply g_load; first | exact WT_loadf rfl rfl)); exact rfl))
      (try (first | (refine WPY_vv (k := 1) rfl (by omega) ?_; intro _ _ hv _ _; subst hv)))
      (refine WPY_one 8 (by decide +kernel) rfl guard_none (fun _ _ h => h) ?_)
      (first | (apply g_bslice; (first | refine WO_bslice1 rfl rfl ?_ | refine WO_bslice rfl (by repeat (first | exact PartsO.nil | (apply PartsO.cons; exact rfl; exact inferInstance; exact rfl; exact rfl))) ?_ | refine WO_bslice0 rfl ?_); intro _))
      (try (first | (refine WPY_vv (k := 1) rfl (by omega) ?_; intro _ _ hv _ _; subst hv)))
      (refine WPY_one (H' := feet []) 9 (by decide +kernel) rfl guard_none (fun h => absurd h (by decide)) ?_)
      (first | (apply g_append; (first | (refine WO_append (k := 1) (l0 := []) rfl rfl (by first | exact Src_rowW (k := 0) rfl rfl) rfl ?_)); intro _))
      (try (first | (refine WPY_vv (k := 1) rfl (by omega) ?_; intro _ _ hv _ _; subst hv)))
      (refine WPY_one (H' := fun _ => True) 10 (by decide +kernel) rfl guard_none (fun _ _ _ => trivial) ?_)
      ((apply WO_t (H := fun _ => True); (first | (apply g_index; first | exact WT_indexa rfl rfl rfl)); exact rfl))
      (try (first | (refine WPY_vv (k := 1) rfl (by omega) ?_; intro _ _ hv _ _; subst hv)))
      (refine WPY_one (H' := feet []) 11 (by decide +kernel) rfl guard_none (fun h => absurd h (by decide)) ?_)
      (first | (apply g_store; first | refine WO_store (k := 2) (l0 := []) rfl rfl rfl ?_))
      (try (first | (refine WPY_vv (k := 1) rfl (by omega) ?_; intro _ _ hv _ _; subst hv)))
      refine WPY_done (by decide +kernel) ?_
      exact cut_here _ trivial (Leads_envd 1 (by repeat (first | exact sub_nil | refine sub_cons rfl ?_)) rfl)
    (repeat' (first | refine WP_region ?_ | refine WPL_nil ?_ | (apply WPL_t; (first | exact WT_move rfl | exact WT_assign rfl | (apply g_bin; first | exact WT_add rfl rfl)); exact rfl)))
    refine ⟨(i + 1, v2), by show i + 1 ≤ r.rounds.length; omega, by show r.rounds.length - (i + 1) < r.rounds.length - i; omega, ?_⟩
    simp only [flat_str_succ hlt]
    exact Leads_env (by repeat (first | exact sub_nil | refine sub_cons rfl ?_)) (List.Sublist.refl _)
  have hk9 : i = r.rounds.length := by omega
  subst hk9
  rw [List.take_length]
  clear hs hlt
  (repeat' (first | (apply cut_at 22; refine Stop.out ?_) | refine WP_seq ?_ | refine WP_region ?_ | refine WPL_nil ?_ | (apply WPL_t; (first | exact WT_move rfl | (apply g_load; first | exact WT_load (k := 3) rfl rfl rfl rfl) | (apply g_fld; first | exact WT_field rfl rfl rfl) | (apply g_bin; first | exact WT_lss rfl rfl) | (apply g_call; first | exact WT_len rfl rfl)); exact rfl) | refine WP_exit ?_ | (refine WP_cond rfl (fun hb => ?_) (fun hb => ?_) <;> (repeat (first | replace hb := dec_t hb | replace hb := dec_f hb)) <;> (try (exfalso; first | omega)))))
  all_goals (try (exfalso; omega))
  constructor
  apply WP_leads
  · exact Leads_fcell (j := 0) (k := 0) (i := 3) (E := eStr) r.n3 rfl rfl rfl (by simp [RulesD.n3]) rfl rfl (hby := by show _ * 16 ≤ _; omega)
  (repeat' (first | refine WP_seq ?_ | refine WP_region ?_ | refine WPL_nil ?_ | (apply WPL_t; (first | (apply g_load; first | exact WT_loada2 (k := 0) rfl rfl rfl)); exact rfl) | refine WP_ret ?_ | (apply WPL_op0; exact rfl; first | (apply g_store; first | refine WO_store (k := 1) (l0 := []) rfl rfl rfl ?_))))
  exact ⟨.inr rfl, ret1 rfl (.cella (k := 1) rfl rfl rfl rfl inferInstance rfl) (List.nil_sublist _) ⟨rfl, rfl⟩⟩
end Go.Proofs.YtjjjblegnjiaoaaDoor

/- Resolve and Check of the specification. -/
-- STRINGS
namespace Go.Proofs.YtjjjblegnjiaoaaDoor
open Go Go.RowKit Go.Kx Go.Fr

instance Scs_append {ps qs : List SP} [h : Scs ps] [k : Scs qs] : Scs (ps ++ qs) := ⟨fun p hp => (List.mem_append.1 hp).elim (h.out p) (k.out p)⟩
def nth4 (r : RulesD) (i : Nat) : List (List UInt8) := if i = 0 then r.n0 else if i = 1 then r.n1 else if i = 2 then r.n2 else r.n3
theorem nth4_at (r : RulesD) (i : Nat) (h : i < 4) : (nmsV r.n0 r.n1 r.n2 r.n3)[0 + i * 1]? = some (isl eStr (nth4 r i)) := by
  have : i = 0 ∨ i = 1 ∨ i = 2 ∨ i = 3 := by omega
  rcases this with rfl | rfl | rfl | rfl <;> rfl
def lst4 (r : RulesD) : List (List (List UInt8)) := [r.n0, r.n1, r.n2, r.n3]
theorem lst4_at (r : RulesD) (i : Nat) (h : i < 4) : (lst4 r)[i]'(by simpa [lst4] using h) = nth4 r i := by
  have : i = 0 ∨ i = 1 ∨ i = 2 ∨ i = 3 := by omega
  rcases this with rfl | rfl | rfl | rfl <;> rfl
def frI (r : RulesD) (i : Nat) : Bool := freeF r.name && ((lst4 r).take i).all (fun l => l.all freeF)
def twI (r : RulesD) (i : Nat) : Bool := ((lst4 r).take i).any (fun l => !onceF l)
def twQ (l : List (List UInt8)) (q : Nat) : Bool := (List.range q).any (fun p => decide (indexF l (l.getD p []) ≠ (p : Int)))
theorem twQ_succ (l : List (List UInt8)) (q : Nat) (h : q < l.length) : twQ l (q + 1) = (twQ l q || !decide (indexF l l[q] = (q : Int))) := by
  unfold twQ
  rw [List.range_succ, List.any_append]
  simp [h]
theorem twQ_all (l : List (List UInt8)) : twQ l l.length = !onceF l := by
  rw [Bool.eq_iff_iff]
  simp only [twQ, List.any_eq_true, List.mem_range, decide_eq_true_eq, Bool.not_eq_true']
  constructor
  · rintro ⟨p, hp, h⟩
    cases e : onceF l with
    | false => rfl
    | true =>
      have := onceF_index.1 e p hp
      rw [List.getD_eq_getElem?_getD, List.getElem?_eq_getElem hp] at h
      exact absurd this h
  · intro e
    apply Classical.byContradiction
    intro hn
    have : onceF l = true := onceF_index.2 fun i hi => Classical.byContradiction fun h => hn ⟨i, hi, by rw [List.getD_eq_getElem?_getD, List.getElem?_eq_getElem hi]; exact h⟩
    rw [this] at e; cases e
theorem nth4_len {r : RulesD} (h : r.few = true) (i : Nat) : (nth4 r i).length ≤ 140 := by
  obtain ⟨h1, h2, h3, h4, h5, _⟩ := few_facts h
  unfold nth4 RulesD.n0 RulesD.n1 RulesD.n2 RulesD.n3
  split
  · rw [List.length_map]; omega
  · split
    · rw [List.length_append, List.length_map, List.length_map]; omega
    · split <;> rw [List.length_map] <;> omega
theorem im_zero (k : Nat) : Im (agg [ex (.string .empty), ex (.slice none 0 0), ex (.slice none 0 0), ex (.slice none 0 0), ex (.slice none 0 0), ex (.slice none 0 0), ex (.slice none 0 0), ex (.slice none 0 0), ex (.int .i64 0)]) (rul (k + 1) RulesD.zero) := Ims.agg (.cons (.refl _) (.cons .nil (.cons .nil (.cons .nil (.cons .nil (.cons .nil (.cons .nil (.cons .nil (.cons (.refl _) .nil)))))))))
theorem im_zero' (k : Nat) : Im (agg [ex (.string .empty), ex (.slice none 0 0), ex (.slice none 0 0), ex (.slice none 0 0), ex (.slice none 0 0), ex (.slice none 0 0), ex (.slice none 0 0), ex (.slice none 0 0), ex (.int .i64 0)]) (rul k RulesD.zero) := Ims.agg (.cons (.refl _) (.cons .nil (.cons .nil (.cons .nil (.cons .nil (.cons .nil (.cons .nil (.cons .nil (.cons (.refl _) .nil)))))))))

set_option maxHeartbeats 4000000 in
set_option maxRecDepth 100000 in
theorem r14resolve_any (k : Nat) (r : RulesD) (hf : r.few = true) : FnC Tryd.prog 10 [rul k r] [] (fun p loc => p = tup [rul k (r.resolve freeF).1, exI .i64 (r.resolve freeF).2] ∧ loc = []) := by
  obtain ⟨hf1, hf2, hf3, hf4, hf5, hf6, hf7, hf8, hf9⟩ := few_facts hf
  have hlar := large14_any k r hf9
  have hnms := names14_any k r ⟨hf2, hf3⟩
  refine FnC_enter Tryd.func10 rfl Tryd.ntmps10 rfl fun w0 F0 out => ?_
  cases hL : r.large
  case true =>
    rw [hL] at hlar
    (repeat' (first | refine WP_seq ?_ | refine WP_region ?_ | refine WPL_nil ?_ | (apply WPL_t; (first | exact WT_assign rfl | (apply g_load; first | exact WT_loada2 (k := 1) rfl rfl rfl) | (apply g_build; first | exact WT_build2 rfl rfl (by repeat (first | exact PartsO.nil)))); exact rfl) | refine WP_ret ?_ | refine WP_cond_t rfl ?_ | (apply WPL_op0; exact rfl; first | (apply g_callf; first | (refine WO_call Tryd.func40 rfl hlar rfl ?_; rintro _ _ ⟨rfl, rfl⟩)) | (apply g_box; refine WO_box rfl ?_; intro _) | (apply g_alloc; refine WO_alloc ?_; intro _) | (apply g_store; first | refine WO_store (k := 0) (l0 := []) rfl rfl rfl ?_))))
    (refine ⟨.inr rfl, retw (loc' := []) (by first | exact ret2 rfl (.cella (k := 0) rfl rfl rfl rfl inferInstance rfl) (.tmp rfl) (List.nil_sublist _) ⟨rfl, rfl⟩) ?_ ⟨rfl, rfl⟩⟩)
    have e : r.resolve freeF = (RulesD.zero, 2) := by unfold RulesD.resolve; rw [hL]; rfl
    rw [e]
    exact Ims.tup (.cons (im_zero' k) (.cons (.refl _) .nil))
  rw [hL] at hlar
  (repeat' (first | refine WP_seq ?_ | refine WP_region ?_ | refine WPL_nil ?_ | (apply WPL_t; (first | exact WT_assign rfl | (apply g_load; first | exact WT_load (k := 2) rfl rfl rfl rfl | exact WT_loada2 (k := 1) rfl rfl rfl) | (apply g_fld; first | exact WT_field rfl rfl rfl)); exact rfl) | refine WP_block ?_ | refine WP_skip ?_ | refine WP_cond_f rfl ?_ | (apply WPL_op0; exact rfl; first | (apply g_callf; first | (refine WO_call Tryd.func40 rfl hlar rfl ?_; rintro _ _ ⟨rfl, rfl⟩) | (refine WO_call Tryd.func14 rfl hnms rfl ?_; rintro _ _ ⟨rfl, rfl⟩) | (refine WO_call Tryd.func41 rfl (r14free_any _) rfl ?_; rintro _ _ ⟨rfl, rfl⟩)) | (apply g_box; refine WO_box rfl ?_; intro _) | (apply g_alloc; refine WO_alloc ?_; intro _) | (apply g_store; first | refine WO_store (k := 0) (l0 := []) rfl rfl rfl ?_))))
  rename_i b1 b2 b4
  refine WP_loop (fun i : Nat => ([(1, ex (.pointer (some ⟨b1, 0, none⟩))), (2, ex (.pointer (some ⟨b2, 0, none⟩))), (4, ex (.pointer (some ⟨b4, 0, none⟩))), (5, exB (twI r i)), (6, exB (frI r i)), (7, exI .i64 (i : Int))], [row b4 37 4 (nmsV r.n0 r.n1 r.n2 r.n3), row b2 28 9 [ex (.string .empty), ex (.slice none 0 0), ex (.slice none 0 0), ex (.slice none 0 0), ex (.slice none 0 0), ex (.slice none 0 0), ex (.slice none 0 0), ex (.slice none 0 0), ex (.int .i64 0)], row b1 28 9 (rulesV k r)])) (fun i => i ≤ 4) (fun i => 4 - i) 0 ?_ (Nat.zero_le _) fun i hi => ?_
  · have e1 : frI r 0 = freeF r.name := by simp [frI]
    have e2 : twI r 0 = false := rfl
    rw [e1, e2]
    exact Leads_env (by repeat (first | exact sub_nil | refine sub_cons rfl ?_)) (List.Sublist.refl _)
  by_cases hlt : i < 4
  · have hp4 := nth4_at r i hlt
    have hlen := nth4_len hf i
    (repeat' (first | refine WP_seq ?_ | refine WP_region ?_ | refine WPL_nil ?_ | (apply WPL_t; (first | exact WT_move rfl | exact WT_assign rfl | (apply g_bin; first | exact WT_lss rfl rfl)); exact rfl) | refine WP_block ?_ | refine WP_skip ?_ | (refine WP_cond rfl (fun hb => ?_) (fun hb => ?_) <;> (repeat (first | replace hb := dec_t hb | replace hb := dec_f hb)) <;> (try (exfalso; first | omega)))))
    all_goals (try (exfalso; omega))
    refine WP_loop (fun q : Nat => ([(1, ex (.pointer (some ⟨b1, 0, none⟩))), (2, ex (.pointer (some ⟨b2, 0, none⟩))), (4, ex (.pointer (some ⟨b4, 0, none⟩))), (5, exB (twI r i || twQ (nth4 r i) q)), (6, exB (frI r i && ((nth4 r i).take q).all freeF)), (7, exI .i64 (i : Int)), (8, exI .i64 (q : Int))], [row b4 37 4 (nmsV r.n0 r.n1 r.n2 r.n3), row b2 28 9 [ex (.string .empty), ex (.slice none 0 0), ex (.slice none 0 0), ex (.slice none 0 0), ex (.slice none 0 0), ex (.slice none 0 0), ex (.slice none 0 0), ex (.slice none 0 0), ex (.int .i64 0)], row b1 28 9 (rulesV k r)])) (fun q => q ≤ (nth4 r i).length) (fun q => (nth4 r i).length - q) 0 ?_ (Nat.zero_le _) fun q hq => ?_
    · simp only [List.take_zero, List.all_nil, Bool.and_true, show twQ (nth4 r i) 0 = false from rfl, Bool.or_false]
      exact Leads_env (by repeat (first | exact sub_nil | refine sub_cons rfl ?_)) (List.Sublist.refl _)
    by_cases hlq : q < (nth4 r i).length
    · generalize hT : (twI r i || twQ (nth4 r i) q) = tb
      generalize hF : (frI r i && ((nth4 r i).take q).all freeF) = fb
      have eT : (twI r i || twQ (nth4 r i) (q + 1)) = (tb || !decide (indexF (nth4 r i) (nth4 r i)[q] = (q : Int))) := by rw [twQ_succ _ _ hlq, ← Bool.or_assoc, hT]
      have eF : (frI r i && ((nth4 r i).take (q + 1)).all freeF) = (fb && freeF (nth4 r i)[q]) := by rw [all_take_succ hlq, ← Bool.and_assoc, hF]
      clear hT hF
      cases tb <;> cases fb
      · (repeat' (first | refine WP_seq ?_ | refine WP_region ?_ | refine WPL_nil ?_ | (apply WPL_t; (first | exact WT_move rfl | exact WT_assign rfl | exact WT_pick (b := false) rfl (fun e => by cases e) (fun _ => rfl) | (apply g_load; first | exact WT_load (k := 0) rfl rfl (by assumption) rfl) | (apply g_bin; first | exact WT_lss rfl rfl) | (apply g_index; first | exact WT_indexa rfl rfl rfl) | (apply g_call; first | exact WT_len rfl rfl)); exact rfl) | (refine WPL_off rfl rfl rfl rfl rfl ?_) | refine WP_block ?_ | refine WP_skip ?_ | (refine WP_cond rfl (fun hb => ?_) (fun hb => ?_) <;> (repeat (first | replace hb := dec_t hb | replace hb := dec_f hb)) <;> (try (exfalso; first | omega)))))
        all_goals (try (exfalso; omega))
        (refine WP_drawl 16 rfl ?_)
        all_goals ((apply WPY_pure 0 rfl (by decide +kernel) rfl (by repeat (first | exact np_ret)) guard_none; (first | exact WT_move rfl); exact rfl))
        all_goals ((apply WPY_pure 1 rfl (by decide +kernel) rfl (by repeat (first | exact np_ret)) guard_none; (first | exact WT_move rfl); exact rfl))
        all_goals (first | (refine WPY_case 51 rfl (fun hb => ?_) (fun hb => ?_) <;> (repeat (first | replace hb := dec_t hb | replace hb := dec_f hb | replace hb := not_t hb | replace hb := not_f hb)) <;> (try (exfalso; first | (cases hb; done) | omega))) | skip)
        all_goals (first | (apply WPY_pure 2 rfl (by decide +kernel) rfl (by repeat (first | exact np_ret)) (guard_some rfl rfl rfl); (first | exact WT_move rfl); exact rfl))
        all_goals (first | (apply WPY_pure 3 rfl (by decide +kernel) rfl (by repeat (first | exact np_ret)) (guard_some rfl rfl rfl); (first | (apply g_index; first | exact WT_indexa rfl rfl rfl)); exact rfl))
        all_goals (first | (apply WPY_take 4 rfl (by decide +kernel) rfl (by decide +kernel) (by repeat (first | exact np_ret)) (guard_some rfl rfl rfl); (first | (apply g_load; first | exact WT_load (k := 0) rfl rfl (by assumption) rfl)); exact rfl))
        all_goals (first | (apply WPY_pure 5 rfl (by decide +kernel) rfl (by repeat (first | exact np_ret)) (guard_some rfl rfl rfl); (first | exact WT_move rfl); exact rfl))
        all_goals (first | (apply WPY_pure 6 rfl (by decide +kernel) rfl (by repeat (first | exact np_ret)) (guard_some rfl rfl rfl); (first | (apply g_index; first | exact WT_indexa rfl rfl rfl)); exact rfl))
        all_goals (first | (apply WPY_take 7 rfl (by decide +kernel) rfl (by decide +kernel) (by repeat (first | exact np_ret)) (guard_some rfl rfl rfl); (first | (apply g_load; first | exact WT_load (k := 0) rfl rfl (by assumption) rfl)); exact rfl))
        all_goals (first | (apply WPY_pure 8 rfl (by decide +kernel) rfl (by repeat (first | exact np_ret)) (guard_some rfl rfl rfl); (first | exact WT_move rfl); exact rfl))
        all_goals (first | (apply WPY_pure 9 rfl (by decide +kernel) rfl (by repeat (first | exact np_ret)) (guard_some rfl rfl rfl); (first | (apply g_index; first | exact WT_index rfl rfl rfl)); exact rfl))
        all_goals (first | (apply WPY_take 10 rfl (by decide +kernel) rfl (by decide +kernel) (by repeat (first | exact np_ret)) (guard_some rfl rfl rfl); (first | (apply g_load; first | exact WT_loadf rfl rfl)); exact rfl))
        all_goals (first | (apply WPY_pure 12 rfl (by decide +kernel) rfl (by repeat (first | exact np_ret)) (guard_some rfl rfl rfl); (first | exact WT_move rfl); exact rfl))
        all_goals (first | (apply WPY_one 11; exact (by decide +kernel); exact rfl; exact (guard_some rfl rfl rfl); exact (fun _ _ h => h); first | (apply g_callf; first | (refine WO_call Tryd.func42 rfl (r14index_any _ _) rfl ?_; rintro _ _ ⟨rfl, rfl⟩))))
        all_goals (first | (apply WPY_pure 13 rfl (by decide +kernel) rfl (by repeat (first | exact np_ret)) (guard_some rfl rfl rfl); (first | (apply g_bin; first | exact WT_neq rfl rfl)); exact rfl))
        all_goals ((apply WPY_pure 14 rfl (by decide +kernel) rfl (by repeat (first | exact np_ret)) guard_none; (first | exact WT_pick (b := false) rfl (fun e => by cases e) (fun _ => rfl)); exact rfl))
        all_goals ((apply WPY_pure 15 rfl (by decide +kernel) rfl (by repeat (first | exact np_ret)) guard_none; (first | exact WT_assign rfl); exact rfl))
        all_goals (refine WPY_done (by decide +kernel) ?_)
        all_goals ((repeat' (first | refine WP_region ?_ | refine WPL_nil ?_ | (apply WPL_t; (first | exact WT_move rfl | exact WT_assign rfl | (apply g_bin; first | exact WT_add rfl rfl)); exact rfl))))
        all_goals (try (exfalso; omega))
        all_goals (refine ⟨q + 1, by omega, by omega, ?_⟩; rw [eT, eF])
        all_goals exact Leads_env (by repeat (first | exact sub_nil | refine sub_cons rfl ?_)) (List.Sublist.refl _)
      · (repeat' (first | refine WP_seq ?_ | refine WP_region ?_ | refine WPL_nil ?_ | (apply WPL_t; (first | exact WT_move rfl | exact WT_assign rfl | exact WT_pick (b := true) rfl (fun _ => rfl) (fun e => by cases e) | (apply g_load; first | exact WT_load (k := 0) rfl rfl (by assumption) rfl) | (apply g_bin; first | exact WT_lss rfl rfl) | (apply g_index; first | exact WT_indexa rfl rfl rfl) | (apply g_call; first | exact WT_len rfl rfl)); exact rfl) | (apply WPL_gt; exact rfl; exact rfl; exact rfl; (first | exact WT_move rfl | (apply g_load; first | exact WT_loadf rfl rfl | exact WT_load (k := 0) rfl rfl (by assumption) rfl) | (apply g_index; first | exact WT_index rfl rfl rfl | exact WT_indexa rfl rfl rfl)); exact rfl) | refine WP_block ?_ | refine WP_skip ?_ | (apply WPL_on0; exact rfl; exact rfl; exact rfl; exact rfl; (apply g_callf; first | (refine WO_call Tryd.func41 rfl (r14free_any _) rfl ?_; rintro _ _ ⟨rfl, rfl⟩))) | (refine WP_cond rfl (fun hb => ?_) (fun hb => ?_) <;> (repeat (first | replace hb := dec_t hb | replace hb := dec_f hb)) <;> (try (exfalso; first | omega)))))
        all_goals (try (exfalso; omega))
        (refine WP_drawl 16 rfl ?_)
        all_goals ((apply WPY_pure 0 rfl (by decide +kernel) rfl (by repeat (first | exact np_ret)) guard_none; (first | exact WT_move rfl); exact rfl))
        all_goals ((apply WPY_pure 1 rfl (by decide +kernel) rfl (by repeat (first | exact np_ret)) guard_none; (first | exact WT_move rfl); exact rfl))
        all_goals (first | (refine WPY_case 51 rfl (fun hb => ?_) (fun hb => ?_) <;> (repeat (first | replace hb := dec_t hb | replace hb := dec_f hb | replace hb := not_t hb | replace hb := not_f hb)) <;> (try (exfalso; first | (cases hb; done) | omega))) | skip)
        all_goals (first | (apply WPY_pure 2 rfl (by decide +kernel) rfl (by repeat (first | exact np_ret)) (guard_some rfl rfl rfl); (first | exact WT_move rfl); exact rfl))
        all_goals (first | (apply WPY_pure 3 rfl (by decide +kernel) rfl (by repeat (first | exact np_ret)) (guard_some rfl rfl rfl); (first | (apply g_index; first | exact WT_indexa rfl rfl rfl)); exact rfl))
        all_goals (first | (apply WPY_take 4 rfl (by decide +kernel) rfl (by decide +kernel) (by repeat (first | exact np_ret)) (guard_some rfl rfl rfl); (first | (apply g_load; first | exact WT_load (k := 0) rfl rfl (by assumption) rfl)); exact rfl))
        all_goals (first | (apply WPY_pure 5 rfl (by decide +kernel) rfl (by repeat (first | exact np_ret)) (guard_some rfl rfl rfl); (first | exact WT_move rfl); exact rfl))
        all_goals (first | (apply WPY_pure 6 rfl (by decide +kernel) rfl (by repeat (first | exact np_ret)) (guard_some rfl rfl rfl); (first | (apply g_index; first | exact WT_indexa rfl rfl rfl)); exact rfl))
        all_goals (first | (apply WPY_take 7 rfl (by decide +kernel) rfl (by decide +kernel) (by repeat (first | exact np_ret)) (guard_some rfl rfl rfl); (first | (apply g_load; first | exact WT_load (k := 0) rfl rfl (by assumption) rfl)); exact rfl))
        all_goals (first | (apply WPY_pure 8 rfl (by decide +kernel) rfl (by repeat (first | exact np_ret)) (guard_some rfl rfl rfl); (first | exact WT_move rfl); exact rfl))
        all_goals (first | (apply WPY_pure 9 rfl (by decide +kernel) rfl (by repeat (first | exact np_ret)) (guard_some rfl rfl rfl); (first | (apply g_index; first | exact WT_index rfl rfl rfl)); exact rfl))
        all_goals (first | (apply WPY_take 10 rfl (by decide +kernel) rfl (by decide +kernel) (by repeat (first | exact np_ret)) (guard_some rfl rfl rfl); (first | (apply g_load; first | exact WT_loadf rfl rfl)); exact rfl))
        all_goals (first | (apply WPY_pure 12 rfl (by decide +kernel) rfl (by repeat (first | exact np_ret)) (guard_some rfl rfl rfl); (first | exact WT_move rfl); exact rfl))
        all_goals (first | (apply WPY_one 11; exact (by decide +kernel); exact rfl; exact (guard_some rfl rfl rfl); exact (fun _ _ h => h); first | (apply g_callf; first | (refine WO_call Tryd.func42 rfl (r14index_any _ _) rfl ?_; rintro _ _ ⟨rfl, rfl⟩))))
        all_goals (first | (apply WPY_pure 13 rfl (by decide +kernel) rfl (by repeat (first | exact np_ret)) (guard_some rfl rfl rfl); (first | (apply g_bin; first | exact WT_neq rfl rfl)); exact rfl))
        all_goals ((apply WPY_pure 14 rfl (by decide +kernel) rfl (by repeat (first | exact np_ret)) guard_none; (first | exact WT_pick (b := false) rfl (fun e => by cases e) (fun _ => rfl)); exact rfl))
        all_goals ((apply WPY_pure 15 rfl (by decide +kernel) rfl (by repeat (first | exact np_ret)) guard_none; (first | exact WT_assign rfl); exact rfl))
        all_goals (refine WPY_done (by decide +kernel) ?_)
        all_goals ((repeat' (first | refine WP_region ?_ | refine WPL_nil ?_ | (apply WPL_t; (first | exact WT_move rfl | exact WT_assign rfl | (apply g_bin; first | exact WT_add rfl rfl)); exact rfl))))
        all_goals (try (exfalso; omega))
        all_goals (refine ⟨q + 1, by omega, by omega, ?_⟩; rw [eT, eF])
        all_goals exact Leads_env (by repeat (first | exact sub_nil | refine sub_cons rfl ?_)) (List.Sublist.refl _)
      · (repeat' (first | refine WP_seq ?_ | refine WP_region ?_ | refine WPL_nil ?_ | (apply WPL_t; (first | exact WT_move rfl | exact WT_assign rfl | exact WT_pick (b := false) rfl (fun e => by cases e) (fun _ => rfl) | (apply g_load; first | exact WT_load (k := 0) rfl rfl (by assumption) rfl) | (apply g_bin; first | exact WT_lss rfl rfl) | (apply g_index; first | exact WT_indexa rfl rfl rfl) | (apply g_call; first | exact WT_len rfl rfl)); exact rfl) | (refine WPL_off rfl rfl rfl rfl rfl ?_) | refine WP_block ?_ | refine WP_skip ?_ | (refine WP_cond rfl (fun hb => ?_) (fun hb => ?_) <;> (repeat (first | replace hb := dec_t hb | replace hb := dec_f hb)) <;> (try (exfalso; first | omega)))))
        all_goals (try (exfalso; omega))
        (refine WP_drawl 16 rfl ?_)
        all_goals ((apply WPY_pure 0 rfl (by decide +kernel) rfl (by repeat (first | exact np_ret)) guard_none; (first | exact WT_move rfl); exact rfl))
        all_goals ((apply WPY_pure 1 rfl (by decide +kernel) rfl (by repeat (first | exact np_ret)) guard_none; (first | exact WT_move rfl); exact rfl))
        all_goals (first | (refine WPY_case 51 rfl (fun hb => ?_) (fun hb => ?_) <;> (repeat (first | replace hb := dec_t hb | replace hb := dec_f hb | replace hb := not_t hb | replace hb := not_f hb)) <;> (try (exfalso; first | (cases hb; done) | omega))) | skip)
        all_goals (first | (refine WPY_off 2 rfl (by decide +kernel) rfl (by repeat (first | exact np_ret)) rfl rfl rfl rfl rfl ?_))
        all_goals (first | (refine WPY_off 3 rfl (by decide +kernel) rfl (by repeat (first | exact np_ret)) rfl rfl rfl rfl rfl ?_))
        all_goals (first | (refine WPY_off 4 rfl (by decide +kernel) rfl (by repeat (first | exact np_ret)) rfl rfl rfl rfl rfl ?_))
        all_goals (first | (refine WPY_off 5 rfl (by decide +kernel) rfl (by repeat (first | exact np_ret)) rfl rfl rfl rfl rfl ?_))
        all_goals (first | (refine WPY_off 6 rfl (by decide +kernel) rfl (by repeat (first | exact np_ret)) rfl rfl rfl rfl rfl ?_))
        all_goals (first | (refine WPY_off 7 rfl (by decide +kernel) rfl (by repeat (first | exact np_ret)) rfl rfl rfl rfl rfl ?_))
        all_goals (first | (refine WPY_off 8 rfl (by decide +kernel) rfl (by repeat (first | exact np_ret)) rfl rfl rfl rfl rfl ?_))
        all_goals (first | (refine WPY_off 9 rfl (by decide +kernel) rfl (by repeat (first | exact np_ret)) rfl rfl rfl rfl rfl ?_))
        all_goals (first | (refine WPY_off 10 rfl (by decide +kernel) rfl (by repeat (first | exact np_ret)) rfl rfl rfl rfl rfl ?_))
        all_goals (first | (refine WPY_off 12 rfl (by decide +kernel) rfl (by repeat (first | exact np_ret)) rfl rfl rfl rfl rfl ?_))
        all_goals (first | (refine WPY_off 11 rfl (by decide +kernel) rfl (by repeat (first | exact np_ret)) rfl rfl rfl rfl rfl ?_))
        all_goals (first | (refine WPY_off 13 rfl (by decide +kernel) rfl (by repeat (first | exact np_ret)) rfl rfl rfl rfl rfl ?_))
        all_goals ((apply WPY_pure 14 rfl (by decide +kernel) rfl (by repeat (first | exact np_ret)) guard_none; (first | exact WT_pick (b := true) rfl (fun _ => rfl) (fun e => by cases e)); exact rfl))
        all_goals ((apply WPY_pure 15 rfl (by decide +kernel) rfl (by repeat (first | exact np_ret)) guard_none; (first | exact WT_assign rfl); exact rfl))
        all_goals (refine WPY_done (by decide +kernel) ?_)
        all_goals ((repeat' (first | refine WP_region ?_ | refine WPL_nil ?_ | (apply WPL_t; (first | exact WT_move rfl | exact WT_assign rfl | (apply g_bin; first | exact WT_add rfl rfl)); exact rfl))))
        all_goals (try (exfalso; omega))
        all_goals (refine ⟨q + 1, by omega, by omega, ?_⟩; rw [eT, eF])
        all_goals exact Leads_env (by repeat (first | exact sub_nil | refine sub_cons rfl ?_)) (List.Sublist.refl _)
      · (repeat' (first | refine WP_seq ?_ | refine WP_region ?_ | refine WPL_nil ?_ | (apply WPL_t; (first | exact WT_move rfl | exact WT_assign rfl | exact WT_pick (b := true) rfl (fun _ => rfl) (fun e => by cases e) | (apply g_load; first | exact WT_load (k := 0) rfl rfl (by assumption) rfl) | (apply g_bin; first | exact WT_lss rfl rfl) | (apply g_index; first | exact WT_indexa rfl rfl rfl) | (apply g_call; first | exact WT_len rfl rfl)); exact rfl) | (apply WPL_gt; exact rfl; exact rfl; exact rfl; (first | exact WT_move rfl | (apply g_load; first | exact WT_loadf rfl rfl | exact WT_load (k := 0) rfl rfl (by assumption) rfl) | (apply g_index; first | exact WT_index rfl rfl rfl | exact WT_indexa rfl rfl rfl)); exact rfl) | refine WP_block ?_ | refine WP_skip ?_ | (apply WPL_on0; exact rfl; exact rfl; exact rfl; exact rfl; (apply g_callf; first | (refine WO_call Tryd.func41 rfl (r14free_any _) rfl ?_; rintro _ _ ⟨rfl, rfl⟩))) | (refine WP_cond rfl (fun hb => ?_) (fun hb => ?_) <;> (repeat (first | replace hb := dec_t hb | replace hb := dec_f hb)) <;> (try (exfalso; first | omega)))))
        all_goals (try (exfalso; omega))
        (refine WP_drawl 16 rfl ?_)
        all_goals ((apply WPY_pure 0 rfl (by decide +kernel) rfl (by repeat (first | exact np_ret)) guard_none; (first | exact WT_move rfl); exact rfl))
        all_goals ((apply WPY_pure 1 rfl (by decide +kernel) rfl (by repeat (first | exact np_ret)) guard_none; (first | exact WT_move rfl); exact rfl))
        all_goals (first | (refine WPY_case 51 rfl (fun hb => ?_) (fun hb => ?_) <;> (repeat (first | replace hb := dec_t hb | replace hb := dec_f hb | replace hb := not_t hb | replace hb := not_f hb)) <;> (try (exfalso; first | (cases hb; done) | omega))) | skip)
        all_goals (first | (refine WPY_off 2 rfl (by decide +kernel) rfl (by repeat (first | exact np_ret)) rfl rfl rfl rfl rfl ?_))
        all_goals (first | (refine WPY_off 3 rfl (by decide +kernel) rfl (by repeat (first | exact np_ret)) rfl rfl rfl rfl rfl ?_))
        all_goals (first | (refine WPY_off 4 rfl (by decide +kernel) rfl (by repeat (first | exact np_ret)) rfl rfl rfl rfl rfl ?_))
        all_goals (first | (refine WPY_off 5 rfl (by decide +kernel) rfl (by repeat (first | exact np_ret)) rfl rfl rfl rfl rfl ?_))
        all_goals (first | (refine WPY_off 6 rfl (by decide +kernel) rfl (by repeat (first | exact np_ret)) rfl rfl rfl rfl rfl ?_))
        all_goals (first | (refine WPY_off 7 rfl (by decide +kernel) rfl (by repeat (first | exact np_ret)) rfl rfl rfl rfl rfl ?_))
        all_goals (first | (refine WPY_off 8 rfl (by decide +kernel) rfl (by repeat (first | exact np_ret)) rfl rfl rfl rfl rfl ?_))
        all_goals (first | (refine WPY_off 9 rfl (by decide +kernel) rfl (by repeat (first | exact np_ret)) rfl rfl rfl rfl rfl ?_))
        all_goals (first | (refine WPY_off 10 rfl (by decide +kernel) rfl (by repeat (first | exact np_ret)) rfl rfl rfl rfl rfl ?_))
        all_goals (first | (refine WPY_off 12 rfl (by decide +kernel) rfl (by repeat (first | exact np_ret)) rfl rfl rfl rfl rfl ?_))
        all_goals (first | (refine WPY_off 11 rfl (by decide +kernel) rfl (by repeat (first | exact np_ret)) rfl rfl rfl rfl rfl ?_))
        all_goals (first | (refine WPY_off 13 rfl (by decide +kernel) rfl (by repeat (first | exact np_ret)) rfl rfl rfl rfl rfl ?_))
        all_goals ((apply WPY_pure 14 rfl (by decide +kernel) rfl (by repeat (first | exact np_ret)) guard_none; (first | exact WT_pick (b := true) rfl (fun _ => rfl) (fun e => by cases e)); exact rfl))
        all_goals ((apply WPY_pure 15 rfl (by decide +kernel) rfl (by repeat (first | exact np_ret)) guard_none; (first | exact WT_assign rfl); exact rfl))
        all_goals (refine WPY_done (by decide +kernel) ?_)
        all_goals ((repeat' (first | refine WP_region ?_ | refine WPL_nil ?_ | (apply WPL_t; (first | exact WT_move rfl | exact WT_assign rfl | (apply g_bin; first | exact WT_add rfl rfl)); exact rfl))))
        all_goals (try (exfalso; omega))
        all_goals (refine ⟨q + 1, by omega, by omega, ?_⟩; rw [eT, eF])
        all_goals exact Leads_env (by repeat (first | exact sub_nil | refine sub_cons rfl ?_)) (List.Sublist.refl _)
    · have hk9 : q = (nth4 r i).length := by omega
      subst hk9
      rw [List.take_length, twQ_all]
      (repeat' (first | refine WP_seq ?_ | refine WP_region ?_ | refine WPL_nil ?_ | (apply WPL_t; (first | exact WT_move rfl | exact WT_assign rfl | (apply g_load; first | exact WT_load (k := 0) rfl rfl (by assumption) rfl) | (apply g_bin; first | exact WT_lss rfl rfl | exact WT_add rfl rfl) | (apply g_index; first | exact WT_indexa rfl rfl rfl) | (apply g_call; first | exact WT_len rfl rfl)); exact rfl) | refine WP_exit ?_ | (refine WP_cond rfl (fun hb => ?_) (fun hb => ?_) <;> (repeat (first | replace hb := dec_t hb | replace hb := dec_f hb)) <;> (try (exfalso; first | omega)))))
      all_goals (try (exfalso; omega))
      refine ⟨i + 1, by omega, by omega, ?_⟩
      have e1 : frI r (i + 1) = (frI r i && (nth4 r i).all freeF) := by
        unfold frI; rw [all_take_succ (by simpa [lst4] using hlt), lst4_at r i hlt, Bool.and_assoc]
      have e2 : twI r (i + 1) = (twI r i || !onceF (nth4 r i)) := by
        unfold twI; rw [any_take_succ (by simpa [lst4] using hlt), lst4_at r i hlt]
      rw [e1, e2]
      exact Leads_env (by repeat (first | exact sub_nil | refine sub_cons rfl ?_)) (List.Sublist.refl _)
  have hk9 : i = 4 := by omega
  subst hk9
  have e1 : frI r 4 = (freeF r.name && (r.n0.all freeF && (r.n1.all freeF && (r.n2.all freeF && r.n3.all freeF)))) := by simp [frI, lst4]
  have e2 : twI r 4 = !r.once := by simp [twI, lst4, RulesD.once]
  rw [e1, e2]
  clear e1 e2
  generalize hfr : (freeF r.name && (r.n0.all freeF && (r.n1.all freeF && (r.n2.all freeF && r.n3.all freeF)))) = fr
  cases fr
  · (repeat' (first | refine WP_seq ?_ | refine WP_region ?_ | refine WPL_nil ?_ | (apply WPL_t; (first | exact WT_move rfl | exact WT_assign rfl | (apply g_bin; first | exact WT_lss rfl rfl) | (apply g_un; first | exact WT_not rfl) | (apply g_build; first | exact WT_build2 rfl rfl (by repeat (first | exact PartsO.nil)))); exact rfl) | refine WP_ret ?_ | refine WP_exit ?_ | refine WP_cond_t rfl ?_ | refine WP_cond_f rfl ?_ | (apply WPL_op0; exact rfl; first | (apply g_store; first | refine WO_store (k := 1) (l0 := []) rfl rfl rfl ?_))))
    all_goals (try (exfalso; omega))
    (refine ⟨.inr rfl, retw (loc' := []) (by first | exact ret2 rfl (.cella (k := 1) rfl rfl rfl rfl inferInstance rfl) (.tmp rfl) (List.nil_sublist _) ⟨rfl, rfl⟩) ?_ ⟨rfl, rfl⟩⟩)
    have e : r.resolve freeF = (RulesD.zero, 140) := by unfold RulesD.resolve; rw [hL, hfr]; rfl
    rw [e]
    exact Ims.tup (.cons (im_zero' k) (.cons (.refl _) .nil))
  cases hon : r.once
  · (repeat' (first | refine WP_seq ?_ | refine WP_region ?_ | refine WPL_nil ?_ | (apply WPL_t; (first | exact WT_move rfl | exact WT_assign rfl | (apply g_bin; first | exact WT_lss rfl rfl) | (apply g_un; first | exact WT_not rfl) | (apply g_build; first | exact WT_build2 rfl rfl (by repeat (first | exact PartsO.nil)))); exact rfl) | refine WP_skip ?_ | refine WP_ret ?_ | refine WP_exit ?_ | refine WP_cond_t rfl ?_ | refine WP_cond_f rfl ?_ | (apply WPL_op0; exact rfl; first | (apply g_store; first | refine WO_store (k := 1) (l0 := []) rfl rfl rfl ?_))))
    all_goals (try (exfalso; omega))
    (refine ⟨.inr rfl, retw (loc' := []) (by first | exact ret2 rfl (.cella (k := 1) rfl rfl rfl rfl inferInstance rfl) (.tmp rfl) (List.nil_sublist _) ⟨rfl, rfl⟩) ?_ ⟨rfl, rfl⟩⟩)
    have e : r.resolve freeF = (RulesD.zero, 141) := by unfold RulesD.resolve; rw [hL, hfr, hon]; rfl
    rw [e]
    exact Ims.tup (.cons (im_zero' k) (.cons (.refl _) .nil))
  have eres : r.resolve freeF = if !r.allOk then (RulesD.zero, 140) else (r.resolved, 0) := by unfold RulesD.resolve; rw [hL, hfr, hon]; rfl
  rw [eres]
  clear eres hlar hnms hfr hon
  (repeat' (first | refine WP_seq ?_ | refine WP_region ?_ | refine WPL_nil ?_ | (apply WPL_t; (first | exact WT_move rfl | exact WT_assign rfl | (apply g_load; first | exact WT_loada2 (k := 2) rfl rfl rfl) | (apply g_fld; first | exact WT_field rfl rfl rfl) | (apply g_bin; first | exact WT_lss rfl rfl) | (apply g_un; first | exact WT_not rfl)); exact rfl) | refine WP_block ?_ | refine WP_skip ?_ | refine WP_exit ?_ | refine WP_cond_f rfl ?_ | (apply WPL_op0; exact rfl; first | (apply g_alloc; refine WO_alloc ?_; intro _) | (apply g_store; first | refine WO_store (k := 0) (l0 := []) rfl rfl rfl ?_))))
  all_goals (try (exfalso; omega))
  rename_i b10
  refine WP_loop (fun s : Nat × Value => ([(1, ex (.pointer (some ⟨b1, 0, none⟩))), (2, ex (.pointer (some ⟨b2, 0, none⟩))), (4, ex (.pointer (some ⟨b4, 0, none⟩))), (9, exB ((r.ties.take s.1).all r.tieOk)), (10, ex (.pointer (some ⟨b10, 0, none⟩))), (11, exI .i64 (s.1 : Int))], vec s.2 41 2 s.1 (((r.ties.take s.1).map r.tieN).flatMap tieV) :: row b10 28 9 [exT r.name, isl eCrit r.crits, isl eItem r.bonus, isl eItem r.malus, ex s.2, ex (.slice none 0 0), isl eI r.prizes, isl eI r.points, exI .i64 r.best] :: [row b4 37 4 (nmsV r.n0 r.n1 r.n2 r.n3), row b2 28 9 [ex (.string .empty), ex (.slice none 0 0), ex (.slice none 0 0), ex (.slice none 0 0), ex (.slice none 0 0), ex (.slice none 0 0), ex (.slice none 0 0), ex (.slice none 0 0), ex (.int .i64 0)], row b1 28 9 (rulesV k r)])) (fun s => s.1 ≤ r.ties.length) (fun s => r.ties.length - s.1) (0, .slice none 0 0) ?_ (Nat.zero_le _) fun s hs => ?_
  · exact Leads_nilv 41 2 (Leads_env (by repeat (first | exact sub_nil | refine sub_cons rfl ?_)) (List.Sublist.refl _))
  obtain ⟨i, v⟩ := s
  simp only at hs ⊢
  by_cases hlt : i < r.ties.length
  · have hkl := hf8 _ (List.getElem_mem hlt)
    (repeat' (first | refine WP_seq ?_ | refine WP_region ?_ | refine WPL_nil ?_ | (apply WPL_t; (first | exact WT_move rfl | exact WT_assign rfl | (apply g_load; first | exact WT_loadf rfl rfl | exact WT_load (k := 4) rfl rfl rfl rfl) | (apply g_fld; first | exact WT_field rfl rfl rfl | exact WT_fieldf rfl rfl rfl) | (apply g_bin; first | exact WT_lss rfl rfl) | (apply g_index; first | exact WT_index rfl rfl rfl) | (apply g_call; first | exact WT_len rfl rfl) | (apply g_build; first | exact WT_build2 rfl rfl (by repeat (first | exact PartsO.nil | (apply PartsO.cons; exact rfl; exact inferInstance; exact rfl; exact rfl))))); exact rfl) | refine WP_block ?_ | refine WP_skip ?_ | (apply WPL_op0; exact rfl; first | (apply g_alloc; refine WO_alloc ?_; intro _) | (apply g_store; first | refine WO_store (k := 0) (l0 := []) rfl rfl rfl ?_)) | (refine WP_cond rfl (fun hb => ?_) (fun hb => ?_) <;> (repeat (first | replace hb := dec_t hb | replace hb := dec_f hb)) <;> (try (exfalso; first | omega)))))
    all_goals (try (exfalso; omega))
    rename_i b12
    refine WP_loop (fun s : Nat × Value => ([(1, ex (.pointer (some ⟨b1, 0, none⟩))), (2, ex (.pointer (some ⟨b2, 0, none⟩))), (4, ex (.pointer (some ⟨b4, 0, none⟩))), (9, exB ((r.ties.take i).all r.tieOk && (r.ties[i].keys.take s.1).all (keyOk r.n0 r.n2 r.n3))), (10, ex (.pointer (some ⟨b10, 0, none⟩))), (11, exI .i64 (i : Int)), (12, ex (.pointer (some ⟨b12, 0, none⟩))), (13, exI .i64 (s.1 : Int))], vec s.2 43 3 s.1 (((r.ties[i].keys.take s.1).map (keyN r.n0 r.n2 r.n3)).flatMap keyV) :: row b12 41 2 [exT r.ties[i].name, ex s.2] :: vec v 41 2 i (((r.ties.take i).map r.tieN).flatMap tieV) :: row b10 28 9 [exT r.name, isl eCrit r.crits, isl eItem r.bonus, isl eItem r.malus, ex v, ex (.slice none 0 0), isl eI r.prizes, isl eI r.points, exI .i64 r.best] :: [row b4 37 4 (nmsV r.n0 r.n1 r.n2 r.n3), row b2 28 9 [ex (.string .empty), ex (.slice none 0 0), ex (.slice none 0 0), ex (.slice none 0 0), ex (.slice none 0 0), ex (.slice none 0 0), ex (.slice none 0 0), ex (.slice none 0 0), ex (.int .i64 0)], row b1 28 9 (rulesV k r)])) (fun s => s.1 ≤ r.ties[i].keys.length) (fun s => r.ties[i].keys.length - s.1) (0, .slice none 0 0) ?_ (Nat.zero_le _) fun s hq => ?_
    · simp only [List.take_zero, List.all_nil, Bool.and_true]
      exact Leads_nilv 43 3 (Leads_env (by repeat (first | exact sub_nil | refine sub_cons rfl ?_)) (List.Sublist.refl _))
    obtain ⟨q, v2⟩ := s
    simp only at hq ⊢
    by_cases hlq : q < r.ties[i].keys.length
    · (repeat' (first | (apply cut_at 29; refine Stop.out ?_) | refine WP_seq ?_ | refine WP_region ?_ | refine WPL_nil ?_ | (apply WPL_t; (first | exact WT_move rfl | (apply g_load; first | exact WT_loadf rfl rfl | exact WT_load (k := 6) rfl rfl rfl rfl) | (apply g_fld; first | exact WT_field rfl rfl rfl | exact WT_fieldf rfl rfl rfl) | (apply g_bin; first | exact WT_lss rfl rfl) | (apply g_index; first | exact WT_index rfl rfl rfl) | (apply g_call; first | exact WT_len rfl rfl)); exact rfl) | refine WP_block ?_ | refine WP_skip ?_ | (refine WP_cond rfl (fun hb => ?_) (fun hb => ?_) <;> (repeat (first | replace hb := dec_t hb | replace hb := dec_f hb)) <;> (try (exfalso; first | omega)))))
      all_goals (try (exfalso; omega))
      refine ⟨WP_cutR 29 (fun b14 : Nat => ([(1, ex (.pointer (some ⟨b1, 0, none⟩))), (2, ex (.pointer (some ⟨b2, 0, none⟩))), (4, ex (.pointer (some ⟨b4, 0, none⟩))), (9, exB ((r.ties.take i).all r.tieOk && (r.ties[i].keys.take q).all (keyOk r.n0 r.n2 r.n3))), (10, ex (.pointer (some ⟨b10, 0, none⟩))), (11, exI .i64 (i : Int)), (12, ex (.pointer (some ⟨b12, 0, none⟩))), (13, exI .i64 (q : Int)), (14, ex (.pointer (some ⟨b14, 0, none⟩))), (15, exB (keyOk r.n0 r.n2 r.n3 r.ties[i].keys[q]))], row b14 43 3 (keyV (keyN r.n0 r.n2 r.n3 r.ties[i].keys[q])) :: vec v2 43 3 q (((r.ties[i].keys.take q).map (keyN r.n0 r.n2 r.n3)).flatMap keyV) :: row b12 41 2 [exT r.ties[i].name, ex v2] :: vec v 41 2 i (((r.ties.take i).map r.tieN).flatMap tieV) :: row b10 28 9 [exT r.name, isl eCrit r.crits, isl eItem r.bonus, isl eItem r.malus, ex v, ex (.slice none 0 0), isl eI r.prizes, isl eI r.points, exI .i64 r.best] :: [row b4 37 4 (nmsV r.n0 r.n1 r.n2 r.n3), row b2 28 9 [ex (.string .empty), ex (.slice none 0 0), ex (.slice none 0 0), ex (.slice none 0 0), ex (.slice none 0 0), ex (.slice none 0 0), ex (.slice none 0 0), ex (.slice none 0 0), ex (.int .i64 0)], row b1 28 9 (rulesV k r)])) (fun _ => True) ?_ fun b14 _ => ?_⟩
      · skip
        (refine WP_drawl 15 rfl ?_)
        (apply WPY_take 0 rfl (by decide +kernel) rfl (by decide +kernel) (by repeat (first | exact np_ret)) guard_none; (first | (apply g_load; first | exact WT_loada2 (k := 4) rfl rfl rfl)); exact rfl)
        (apply WPY_pure 1 rfl (by decide +kernel) rfl (by repeat (first | exact np_ret)) guard_none; (first | (apply g_fld; first | exact WT_field rfl rfl rfl)); exact rfl)
        (apply WPY_take 2 rfl (by decide +kernel) rfl (by decide +kernel) (by repeat (first | exact np_ret)) guard_none; (first | (apply g_load; first | exact WT_load (k := 6) rfl rfl rfl rfl)); exact rfl)
        (apply WPY_pure 3 rfl (by decide +kernel) rfl (by repeat (first | exact np_ret)) guard_none; (first | exact WT_move rfl); exact rfl)
        (apply WPY_pure 4 rfl (by decide +kernel) rfl (by repeat (first | exact np_ret)) guard_none; (first | (apply g_index; first | exact WT_index rfl rfl rfl)); exact rfl)
        (apply WPY_pure 5 rfl (by decide +kernel) rfl (by repeat (first | exact np_ret)) guard_none; (first | (apply g_fld; first | exact WT_fieldf rfl rfl rfl)); exact rfl)
        (apply WPY_take 6 rfl (by decide +kernel) rfl (by decide +kernel) (by repeat (first | exact np_ret)) guard_none; (first | (apply g_load; first | exact WT_loadf rfl rfl)); exact rfl)
        (apply WPY_pure 7 rfl (by decide +kernel) rfl (by repeat (first | exact np_ret)) guard_none; (first | exact WT_move rfl); exact rfl)
        (apply WPY_pure 8 rfl (by decide +kernel) rfl (by repeat (first | exact np_ret)) guard_none; (first | (apply g_index; first | exact WT_index rfl rfl rfl)); exact rfl)
        (apply WPY_take 9 rfl (by decide +kernel) rfl (by decide +kernel) (by repeat (first | exact np_ret)) guard_none; (first | (apply g_load; first | exact WT_loadfa rfl rfl)); exact rfl)
        (refine WPY_two 10 14 (by decide +kernel) rfl guard_none (fun _ _ h => h) rfl guard_none (fun _ _ h => h) ?_ ?_)
        ·
          (first | (apply g_callf; first | (refine WO_call Tryd.func43 rfl (r14key_any _ _ _ _ _) rfl ?_; rintro _ _ ⟨rfl, rfl⟩)))
          (apply WPY_pure 11 rfl (by decide +kernel) rfl (by repeat (first | exact np_ret)) guard_none; (first | exact WT_move rfl); exact rfl)
          (apply WPY_pure 12 rfl (by decide +kernel) rfl (by repeat (first | exact np_ret)) guard_none; (first | exact WT_extract rfl rfl); exact rfl)
          (apply WPY_pure 13 rfl (by decide +kernel) rfl (by repeat (first | exact np_ret)) guard_none; (first | exact WT_extract rfl rfl); exact rfl)
          (refine WPY_one 14 (by decide +kernel) rfl guard_none (fun _ _ h => h) ?_)
          (first | (apply g_alloc; refine WO_alloc ?_; intro _))
          (refine WPY_one (H' := feet []) 15 (by decide +kernel) rfl guard_none (fun h => absurd h (by decide)) ?_)
          (first | (apply g_store; first | refine WO_store (k := 0) (l0 := []) rfl rfl rfl ?_))
          (refine WPY_one (H' := fun _ => True) 16 (by decide +kernel) rfl guard_none (fun _ _ _ => trivial) ?_)
          ((apply WO_t (H := fun _ => True); (first | exact WT_assign rfl); exact rfl))
          refine WPY_done (by decide +kernel) ?_
          exact cut_here _ trivial (Leads_env (by repeat (first | exact sub_nil | refine sub_cons rfl ?_)) (List.Sublist.refl _))
        ·
          (first | (apply g_alloc; refine WO_alloc ?_; intro _))
          (refine WPY_one 10 (by decide +kernel) rfl guard_none (fun _ _ h => h) ?_)
          (first | (apply g_callf; first | (refine WO_call Tryd.func43 rfl (r14key_any _ _ _ _ _) rfl ?_; rintro _ _ ⟨rfl, rfl⟩)))
          (apply WPY_pure 11 rfl (by decide +kernel) rfl (by repeat (first | exact np_ret)) guard_none; (first | exact WT_move rfl); exact rfl)
          (apply WPY_pure 12 rfl (by decide +kernel) rfl (by repeat (first | exact np_ret)) guard_none; (first | exact WT_extract rfl rfl); exact rfl)
          (apply WPY_pure 13 rfl (by decide +kernel) rfl (by repeat (first | exact np_ret)) guard_none; (first | exact WT_extract rfl rfl); exact rfl)
          (refine WPY_one (H' := feet []) 15 (by decide +kernel) rfl guard_none (fun h => absurd h (by decide)) ?_)
          (first | (apply g_store; first | refine WO_store (k := 0) (l0 := []) rfl rfl rfl ?_))
          (refine WPY_one (H' := fun _ => True) 16 (by decide +kernel) rfl guard_none (fun _ _ _ => trivial) ?_)
          ((apply WO_t (H := fun _ => True); (first | exact WT_assign rfl); exact rfl))
          refine WPY_done (by decide +kernel) ?_
          exact cut_here _ trivial (Leads_env (by repeat (first | exact sub_nil | refine sub_cons rfl ?_)) (List.Sublist.refl _))
      (repeat' (first | (apply at_store; refine WPL_vv (k := 2) rfl (by omega) ?_; intro _ _ hv; subst hv) | refine WP_seq ?_ | refine WP_region ?_ | refine WPL_nil ?_ | (apply WPL_t; (first | exact WT_move rfl | exact WT_assign rfl | exact WT_pick (b := true) rfl (fun _ => rfl) (fun e => by cases e) | exact WT_pick (b := false) rfl (fun e => by cases e) (fun _ => rfl) | (apply g_load; first | exact WT_load (k := 2) rfl rfl rfl rfl | exact WT_loada2 (k := 0) rfl rfl rfl) | (apply g_fld; first | exact WT_field rfl rfl rfl) | (apply g_bin; first | exact WT_add rfl rfl)); exact rfl) | (refine WPL_off rfl rfl rfl rfl rfl ?_) | (apply WPL_gt; exact rfl; exact rfl; exact rfl; (first | exact WT_move rfl); exact rfl) | (apply WPL_op0; exact rfl; first | (apply g_store; first | refine WO_store (k := 3) (l0 := []) rfl rfl rfl ?_) | (apply g_append; (first | (refine WO_append (k := 2) (l0 := []) rfl rfl (by first | exact Src_rowW (k := 0) rfl rfl) rfl ?_)); intro _) | (apply g_bslice; (first | refine WO_bslice1 rfl rfl ?_); intro _)) | (refine WPL_case rfl rfl (fun hb => ?_) (fun hb => ?_) <;> (repeat (first | fail)) <;> (try (exfalso; first | fail)))))
      all_goals (rename_i v3 c3; refine ⟨(q + 1, .slice (some ⟨v3, 0, none⟩) (q + 1) c3), by show q + 1 ≤ _; omega, by show r.ties[i].keys.length - (q + 1) < r.ties[i].keys.length - q; omega, ?_⟩)
      all_goals (rw [all_take_succ hlq, ← Bool.and_assoc, hb])
      all_goals (simp only [List.take_succ_eq_append_getElem hlq, List.map_append, List.map_cons, List.map_nil, List.flatMap_append, List.flatMap_cons, List.flatMap_nil, List.append_nil])
      all_goals exact Leads_envd 2 (by repeat (first | exact sub_nil | refine sub_cons rfl ?_)) rfl
    · have hk9 : q = r.ties[i].keys.length := by omega
      subst hk9
      rw [List.take_length]
      (repeat' (first | (apply at_region 32; refine Stop.out ?_) | refine WP_seq ?_ | refine WP_region ?_ | refine WPL_nil ?_ | (apply WPL_t; (first | exact WT_move rfl | (apply g_load; first | exact WT_loadf rfl rfl | exact WT_load (k := 6) rfl rfl rfl rfl) | (apply g_fld; first | exact WT_field rfl rfl rfl | exact WT_fieldf rfl rfl rfl) | (apply g_bin; first | exact WT_lss rfl rfl) | (apply g_index; first | exact WT_index rfl rfl rfl) | (apply g_call; first | exact WT_len rfl rfl)); exact rfl) | refine WP_exit ?_ | (refine WP_cond rfl (fun hb => ?_) (fun hb => ?_) <;> (repeat (first | replace hb := dec_t hb | replace hb := dec_f hb)) <;> (try (exfalso; first | omega)))))
      all_goals (try (exfalso; omega))
      constructor
      apply WP_leads
      · exact Leads_fcell (j := 0) (k := 0) (i := 1) (E := eKey) (r.ties[i].keys.map (keyN r.n0 r.n2 r.n3)) rfl rfl rfl (by simp) rfl rfl (hby := by show _ * 32 ≤ _; omega)
      (repeat' (first | (apply at_store; refine WPL_vv (k := 2) rfl (by omega) ?_; intro _ _ hv; subst hv) | refine WP_region ?_ | refine WPL_nil ?_ | (apply WPL_t; (first | exact WT_move rfl | exact WT_assign rfl | (apply g_load; first | exact WT_load (k := 2) rfl rfl rfl rfl | exact WT_loada2 (k := 0) rfl rfl rfl) | (apply g_fld; first | exact WT_field rfl rfl rfl) | (apply g_bin; first | exact WT_add rfl rfl)); exact rfl) | (apply WPL_op0; exact rfl; first | (apply g_store; first | refine WO_store (k := 3) (l0 := []) rfl rfl rfl ?_) | (apply g_append; (first | (refine WO_append (k := 2) (l0 := []) rfl rfl (by first | exact Src_rowW (k := 0) rfl rfl) rfl ?_)); intro _) | (apply g_bslice; (first | refine WO_bslice1 rfl rfl ?_); intro _))))
      rename_i v3 c3
      refine ⟨(i + 1, .slice (some ⟨v3, 0, none⟩) (i + 1) c3), by show i + 1 ≤ _; omega, by show r.ties.length - (i + 1) < r.ties.length - i; omega, ?_⟩
      rw [all_take_succ hlt]
      simp only [List.take_succ_eq_append_getElem hlt, List.map_append, List.map_cons, List.map_nil, List.flatMap_append, List.flatMap_cons, List.flatMap_nil, List.append_nil]
      exact Leads_envd 2 (by repeat (first | exact sub_nil | refine sub_cons rfl ?_)) rfl
  · have hk9 : i = r.ties.length := by omega
    subst hk9
    rw [List.take_length]
    (repeat' (first | (apply cuts_at 33; refine Stop.out ?_) | refine WP_seq ?_ | refine WP_region ?_ | refine WPL_nil ?_ | (apply WPL_t; (first | exact WT_move rfl | (apply g_load; first | exact WT_load (k := 4) rfl rfl rfl rfl) | (apply g_fld; first | exact WT_field rfl rfl rfl) | (apply g_bin; first | exact WT_lss rfl rfl) | (apply g_call; first | exact WT_len rfl rfl)); exact rfl) | refine WP_exit ?_ | (refine WP_cond rfl (fun hb => ?_) (fun hb => ?_) <;> (repeat (first | replace hb := dec_t hb | replace hb := dec_f hb)) <;> (try (exfalso; first | omega)))))
    all_goals (try (exfalso; omega))
    constructor
    apply WP_leads
    · exact Leads_fcell (j := 0) (k := 0) (i := 4) (E := eTie) (r.ties.map r.tieN) rfl rfl rfl (by simp) rfl rfl (hby := by show _ * 40 ≤ _; omega)
    (repeat' (first | refine WP_seq ?_ | refine WP_region ?_ | refine WPL_nil ?_ | (apply WPL_t; (first | exact WT_assign rfl); exact rfl) | refine WP_block ?_))
    refine WP_loop (fun s : Nat × Value => ([(1, ex (.pointer (some ⟨b1, 0, none⟩))), (2, ex (.pointer (some ⟨b2, 0, none⟩))), (4, ex (.pointer (some ⟨b4, 0, none⟩))), (9, exB (r.ties.all r.tieOk && (r.rounds.take s.1).all r.roundOk)), (10, ex (.pointer (some ⟨b10, 0, none⟩))), (16, exI .i64 (s.1 : Int))], vec s.2 49 13 s.1 (((r.rounds.take s.1).map r.roundN).flatMap (roundV k)) :: row b10 28 9 [exT r.name, isl eCrit r.crits, isl eItem r.bonus, isl eItem r.malus, isl eTie (r.ties.map r.tieN), ex s.2, isl eI r.prizes, isl eI r.points, exI .i64 r.best] :: [row b4 37 4 (nmsV r.n0 r.n1 r.n2 r.n3), row b2 28 9 [ex (.string .empty), ex (.slice none 0 0), ex (.slice none 0 0), ex (.slice none 0 0), ex (.slice none 0 0), ex (.slice none 0 0), ex (.slice none 0 0), ex (.slice none 0 0), ex (.int .i64 0)], row b1 28 9 (rulesV k r)])) (fun s => s.1 ≤ r.rounds.length) (fun s => r.rounds.length - s.1) (0, .slice none 0 0) ?_ (Nat.zero_le _) fun s hs => ?_
    · simp only [List.take_zero, List.all_nil, Bool.and_true]
      exact Leads_nilv 49 13 (Leads_env (by repeat (first | exact sub_nil | refine sub_cons rfl ?_)) (List.Sublist.refl _))
    obtain ⟨i, v⟩ := s
    simp only at hs ⊢
    by_cases hlt : i < r.rounds.length
    · have hexp := r14expr_any r.n0 r.n1 r.n2 r.n3 k r.rounds[i].score
      have eO : (r.ties.all r.tieOk && (r.rounds.take (i + 1)).all r.roundOk) = ((r.ties.all r.tieOk && (r.rounds.take i).all r.roundOk) && (r.rounds[i].score.ok r.n0 r.n3 && (decide (r.rounds[i].tie = []) || decide (0 ≤ indexF r.n2 r.rounds[i].tie)))) := by
        rw [all_take_succ hlt, ← Bool.and_assoc]; rfl
      generalize (r.ties.all r.tieOk && (r.rounds.take i).all r.roundOk) = ob at eO ⊢
      generalize r.rounds[i].score.ok r.n0 r.n3 = sb at eO hexp
      by_cases ht : r.rounds[i].tie = []
      · rw [decide_eq_true ht, Bool.true_or] at eO
        cases ob <;> cases sb
        · (repeat' (first | (apply at_region 44; refine Stop.out ?_) | refine WP_seq ?_ | refine WP_region ?_ | refine WPL_nil ?_ | (apply WPL_t; (first | exact WT_move rfl | exact WT_assign rfl | exact WT_pick (b := false) rfl (fun e => by cases e) (fun _ => rfl) | exact WT_extract rfl rfl | (apply g_load; first | exact WT_load (k := 1) rfl rfl rfl rfl | exact WT_load (k := 4) rfl rfl rfl rfl | exact WT_loadfa rfl rfl | exact WT_loada2 (k := 0) rfl rfl rfl | exact WT_loada2 (k := 3) rfl rfl rfl) | (apply g_fld; first | exact WT_field rfl rfl rfl) | (apply g_bin; first | exact WT_tne rfl rfl | exact WT_lss rfl rfl) | (apply g_index; first | exact WT_index rfl rfl rfl | exact WT_indexa rfl rfl rfl) | (apply g_call; first | exact WT_len rfl rfl)); exact rfl) | (refine WPL_off rfl rfl rfl rfl rfl ?_) | refine WP_block ?_ | refine WP_skip ?_ | (apply WPL_op0; exact rfl; first | (apply g_callf; first | (refine WO_call Tryd.func44 rfl hexp rfl ?_; rintro _ _ ⟨rfl, rfl⟩) | (refine WO_call Tryd.func42 rfl (r14index_any _ _) rfl ?_; rintro _ _ ⟨rfl, rfl⟩)) | (apply g_alloc; refine WO_alloc ?_; intro _) | (apply g_store; first | refine WO_store (k := 0) (l0 := []) rfl rfl rfl ?_ | refine WO_store (k := 1) (l0 := []) rfl rfl rfl ?_)) | (refine WP_cond rfl (fun hb => ?_) (fun hb => ?_) <;> (repeat (first | replace hb := dec_t hb | replace hb := dec_f hb | replace hb := not_t hb | replace hb := not_f hb)) <;> (try (exfalso; first | omega)))))
          all_goals (try (exfalso; omega))
          all_goals (try contradiction)
          rename_i b17 b18
          constructor
          refine WP_leads (env' := [(1, ex (.pointer (some ⟨b1, 0, none⟩))), (2, ex (.pointer (some ⟨b2, 0, none⟩))), (4, ex (.pointer (some ⟨b4, 0, none⟩))), (9, exB (false && (false && true))), (10, ex (.pointer (some ⟨b10, 0, none⟩))), (16, exI .i64 (i : Int)), (17, ex (.pointer (some ⟨b17, 0, none⟩)))]) (loc' := row b17 49 13 (roundV k (r.roundN r.rounds[i])) :: vec v 49 13 i (((r.rounds.take i).map r.roundN).flatMap (roundV k)) :: row b10 28 9 [exT r.name, isl eCrit r.crits, isl eItem r.bonus, isl eItem r.malus, isl eTie (r.ties.map r.tieN), ex v, isl eI r.prizes, isl eI r.points, exI .i64 r.best] :: [row b4 37 4 (nmsV r.n0 r.n1 r.n2 r.n3), row b2 28 9 [ex (.string .empty), ex (.slice none 0 0), ex (.slice none 0 0), ex (.slice none 0 0), ex (.slice none 0 0), ex (.slice none 0 0), ex (.slice none 0 0), ex (.slice none 0 0), ex (.int .i64 0)], row b1 28 9 (rulesV k r)]) ?_ ?_
          · unfold RulesD.roundN
            rw [Ex.res_l]
            simp only [if_pos ht]
            exact Leads_envd 1 (by repeat (first | exact sub_nil | refine sub_cons rfl ?_)) rfl
          (repeat' (first | (apply at_store; refine WPL_vv (k := 2) rfl (by omega) ?_; intro _ _ hv; subst hv) | refine WP_region ?_ | refine WPL_nil ?_ | (apply WPL_t; (first | exact WT_move rfl | exact WT_assign rfl | (apply g_load; first | exact WT_load (k := 2) rfl rfl rfl rfl | exact WT_loada2 (k := 0) rfl rfl rfl) | (apply g_fld; first | exact WT_field rfl rfl rfl) | (apply g_bin; first | exact WT_add rfl rfl)); exact rfl) | (apply WPL_op0; exact rfl; first | (apply g_store; first | refine WO_store (k := 3) (l0 := []) rfl rfl rfl ?_) | (apply g_append; (first | (refine WO_append (k := 2) (l0 := []) rfl rfl (by first | exact Src_rowW (k := 0) rfl rfl) rfl ?_)); intro _) | (apply g_bslice; (first | refine WO_bslice1 rfl rfl ?_); intro _))))
          rename_i v3 c3
          refine ⟨(i + 1, .slice (some ⟨v3, 0, none⟩) (i + 1) c3), by show i + 1 ≤ _; omega, by show r.rounds.length - (i + 1) < r.rounds.length - i; omega, ?_⟩
          rw [eO]
          simp only [List.take_succ_eq_append_getElem hlt, List.map_append, List.map_cons, List.map_nil, List.flatMap_append, List.flatMap_cons, List.flatMap_nil, List.append_nil]
          exact Leads_envd 2 (by repeat (first | exact sub_nil | refine sub_cons rfl ?_)) rfl
        · (repeat' (first | (apply at_region 44; refine Stop.out ?_) | refine WP_seq ?_ | refine WP_region ?_ | refine WPL_nil ?_ | (apply WPL_t; (first | exact WT_move rfl | exact WT_assign rfl | exact WT_pick (b := false) rfl (fun e => by cases e) (fun _ => rfl) | exact WT_extract rfl rfl | (apply g_load; first | exact WT_load (k := 1) rfl rfl rfl rfl | exact WT_load (k := 4) rfl rfl rfl rfl | exact WT_loadfa rfl rfl | exact WT_loada2 (k := 0) rfl rfl rfl | exact WT_loada2 (k := 3) rfl rfl rfl) | (apply g_fld; first | exact WT_field rfl rfl rfl) | (apply g_bin; first | exact WT_tne rfl rfl | exact WT_lss rfl rfl) | (apply g_index; first | exact WT_index rfl rfl rfl | exact WT_indexa rfl rfl rfl) | (apply g_call; first | exact WT_len rfl rfl)); exact rfl) | (refine WPL_off rfl rfl rfl rfl rfl ?_) | refine WP_block ?_ | refine WP_skip ?_ | (apply WPL_op0; exact rfl; first | (apply g_callf; first | (refine WO_call Tryd.func44 rfl hexp rfl ?_; rintro _ _ ⟨rfl, rfl⟩) | (refine WO_call Tryd.func42 rfl (r14index_any _ _) rfl ?_; rintro _ _ ⟨rfl, rfl⟩)) | (apply g_alloc; refine WO_alloc ?_; intro _) | (apply g_store; first | refine WO_store (k := 0) (l0 := []) rfl rfl rfl ?_ | refine WO_store (k := 1) (l0 := []) rfl rfl rfl ?_)) | (refine WP_cond rfl (fun hb => ?_) (fun hb => ?_) <;> (repeat (first | replace hb := dec_t hb | replace hb := dec_f hb | replace hb := not_t hb | replace hb := not_f hb)) <;> (try (exfalso; first | omega)))))
          all_goals (try (exfalso; omega))
          all_goals (try contradiction)
          rename_i b17 b18
          constructor
          refine WP_leads (env' := [(1, ex (.pointer (some ⟨b1, 0, none⟩))), (2, ex (.pointer (some ⟨b2, 0, none⟩))), (4, ex (.pointer (some ⟨b4, 0, none⟩))), (9, exB (false && (true && true))), (10, ex (.pointer (some ⟨b10, 0, none⟩))), (16, exI .i64 (i : Int)), (17, ex (.pointer (some ⟨b17, 0, none⟩)))]) (loc' := row b17 49 13 (roundV k (r.roundN r.rounds[i])) :: vec v 49 13 i (((r.rounds.take i).map r.roundN).flatMap (roundV k)) :: row b10 28 9 [exT r.name, isl eCrit r.crits, isl eItem r.bonus, isl eItem r.malus, isl eTie (r.ties.map r.tieN), ex v, isl eI r.prizes, isl eI r.points, exI .i64 r.best] :: [row b4 37 4 (nmsV r.n0 r.n1 r.n2 r.n3), row b2 28 9 [ex (.string .empty), ex (.slice none 0 0), ex (.slice none 0 0), ex (.slice none 0 0), ex (.slice none 0 0), ex (.slice none 0 0), ex (.slice none 0 0), ex (.slice none 0 0), ex (.int .i64 0)], row b1 28 9 (rulesV k r)]) ?_ ?_
          · unfold RulesD.roundN
            rw [Ex.res_l]
            simp only [if_pos ht]
            exact Leads_envd 1 (by repeat (first | exact sub_nil | refine sub_cons rfl ?_)) rfl
          (repeat' (first | (apply at_store; refine WPL_vv (k := 2) rfl (by omega) ?_; intro _ _ hv; subst hv) | refine WP_region ?_ | refine WPL_nil ?_ | (apply WPL_t; (first | exact WT_move rfl | exact WT_assign rfl | (apply g_load; first | exact WT_load (k := 2) rfl rfl rfl rfl | exact WT_loada2 (k := 0) rfl rfl rfl) | (apply g_fld; first | exact WT_field rfl rfl rfl) | (apply g_bin; first | exact WT_add rfl rfl)); exact rfl) | (apply WPL_op0; exact rfl; first | (apply g_store; first | refine WO_store (k := 3) (l0 := []) rfl rfl rfl ?_) | (apply g_append; (first | (refine WO_append (k := 2) (l0 := []) rfl rfl (by first | exact Src_rowW (k := 0) rfl rfl) rfl ?_)); intro _) | (apply g_bslice; (first | refine WO_bslice1 rfl rfl ?_); intro _))))
          rename_i v3 c3
          refine ⟨(i + 1, .slice (some ⟨v3, 0, none⟩) (i + 1) c3), by show i + 1 ≤ _; omega, by show r.rounds.length - (i + 1) < r.rounds.length - i; omega, ?_⟩
          rw [eO]
          simp only [List.take_succ_eq_append_getElem hlt, List.map_append, List.map_cons, List.map_nil, List.flatMap_append, List.flatMap_cons, List.flatMap_nil, List.append_nil]
          exact Leads_envd 2 (by repeat (first | exact sub_nil | refine sub_cons rfl ?_)) rfl
        · (repeat' (first | (apply at_region 44; refine Stop.out ?_) | refine WP_seq ?_ | refine WP_region ?_ | refine WPL_nil ?_ | (apply WPL_t; (first | exact WT_move rfl | exact WT_assign rfl | exact WT_pick (b := true) rfl (fun _ => rfl) (fun e => by cases e) | exact WT_pick (b := false) rfl (fun e => by cases e) (fun _ => rfl) | exact WT_extract rfl rfl | (apply g_load; first | exact WT_load (k := 1) rfl rfl rfl rfl | exact WT_load (k := 4) rfl rfl rfl rfl | exact WT_loadfa rfl rfl | exact WT_loada2 (k := 0) rfl rfl rfl | exact WT_loada2 (k := 3) rfl rfl rfl) | (apply g_fld; first | exact WT_field rfl rfl rfl) | (apply g_bin; first | exact WT_tne rfl rfl | exact WT_lss rfl rfl) | (apply g_index; first | exact WT_index rfl rfl rfl | exact WT_indexa rfl rfl rfl) | (apply g_call; first | exact WT_len rfl rfl)); exact rfl) | (refine WPL_off rfl rfl rfl rfl rfl ?_) | (apply WPL_gt; exact rfl; exact rfl; exact rfl; (first | exact WT_move rfl); exact rfl) | refine WP_block ?_ | refine WP_skip ?_ | (apply WPL_op0; exact rfl; first | (apply g_callf; first | (refine WO_call Tryd.func44 rfl hexp rfl ?_; rintro _ _ ⟨rfl, rfl⟩) | (refine WO_call Tryd.func42 rfl (r14index_any _ _) rfl ?_; rintro _ _ ⟨rfl, rfl⟩)) | (apply g_alloc; refine WO_alloc ?_; intro _) | (apply g_store; first | refine WO_store (k := 0) (l0 := []) rfl rfl rfl ?_ | refine WO_store (k := 1) (l0 := []) rfl rfl rfl ?_)) | (refine WP_cond rfl (fun hb => ?_) (fun hb => ?_) <;> (repeat (first | replace hb := dec_t hb | replace hb := dec_f hb | replace hb := not_t hb | replace hb := not_f hb)) <;> (try (exfalso; first | omega)))))
          all_goals (try (exfalso; omega))
          all_goals (try contradiction)
          rename_i b17 b18
          constructor
          refine WP_leads (env' := [(1, ex (.pointer (some ⟨b1, 0, none⟩))), (2, ex (.pointer (some ⟨b2, 0, none⟩))), (4, ex (.pointer (some ⟨b4, 0, none⟩))), (9, exB (true && (false && true))), (10, ex (.pointer (some ⟨b10, 0, none⟩))), (16, exI .i64 (i : Int)), (17, ex (.pointer (some ⟨b17, 0, none⟩)))]) (loc' := row b17 49 13 (roundV k (r.roundN r.rounds[i])) :: vec v 49 13 i (((r.rounds.take i).map r.roundN).flatMap (roundV k)) :: row b10 28 9 [exT r.name, isl eCrit r.crits, isl eItem r.bonus, isl eItem r.malus, isl eTie (r.ties.map r.tieN), ex v, isl eI r.prizes, isl eI r.points, exI .i64 r.best] :: [row b4 37 4 (nmsV r.n0 r.n1 r.n2 r.n3), row b2 28 9 [ex (.string .empty), ex (.slice none 0 0), ex (.slice none 0 0), ex (.slice none 0 0), ex (.slice none 0 0), ex (.slice none 0 0), ex (.slice none 0 0), ex (.slice none 0 0), ex (.int .i64 0)], row b1 28 9 (rulesV k r)]) ?_ ?_
          · unfold RulesD.roundN
            rw [Ex.res_l]
            simp only [if_pos ht]
            exact Leads_envd 1 (by repeat (first | exact sub_nil | refine sub_cons rfl ?_)) rfl
          (repeat' (first | (apply at_store; refine WPL_vv (k := 2) rfl (by omega) ?_; intro _ _ hv; subst hv) | refine WP_region ?_ | refine WPL_nil ?_ | (apply WPL_t; (first | exact WT_move rfl | exact WT_assign rfl | (apply g_load; first | exact WT_load (k := 2) rfl rfl rfl rfl | exact WT_loada2 (k := 0) rfl rfl rfl) | (apply g_fld; first | exact WT_field rfl rfl rfl) | (apply g_bin; first | exact WT_add rfl rfl)); exact rfl) | (apply WPL_op0; exact rfl; first | (apply g_store; first | refine WO_store (k := 3) (l0 := []) rfl rfl rfl ?_) | (apply g_append; (first | (refine WO_append (k := 2) (l0 := []) rfl rfl (by first | exact Src_rowW (k := 0) rfl rfl) rfl ?_)); intro _) | (apply g_bslice; (first | refine WO_bslice1 rfl rfl ?_); intro _))))
          rename_i v3 c3
          refine ⟨(i + 1, .slice (some ⟨v3, 0, none⟩) (i + 1) c3), by show i + 1 ≤ _; omega, by show r.rounds.length - (i + 1) < r.rounds.length - i; omega, ?_⟩
          rw [eO]
          simp only [List.take_succ_eq_append_getElem hlt, List.map_append, List.map_cons, List.map_nil, List.flatMap_append, List.flatMap_cons, List.flatMap_nil, List.append_nil]
          exact Leads_envd 2 (by repeat (first | exact sub_nil | refine sub_cons rfl ?_)) rfl
        · (repeat' (first | (apply at_region 44; refine Stop.out ?_) | refine WP_seq ?_ | refine WP_region ?_ | refine WPL_nil ?_ | (apply WPL_t; (first | exact WT_move rfl | exact WT_assign rfl | exact WT_pick (b := true) rfl (fun _ => rfl) (fun e => by cases e) | exact WT_extract rfl rfl | (apply g_load; first | exact WT_load (k := 1) rfl rfl rfl rfl | exact WT_load (k := 4) rfl rfl rfl rfl | exact WT_loadfa rfl rfl | exact WT_loada2 (k := 0) rfl rfl rfl | exact WT_loada2 (k := 3) rfl rfl rfl) | (apply g_fld; first | exact WT_field rfl rfl rfl) | (apply g_bin; first | exact WT_tne rfl rfl | exact WT_lss rfl rfl) | (apply g_index; first | exact WT_index rfl rfl rfl | exact WT_indexa rfl rfl rfl) | (apply g_call; first | exact WT_len rfl rfl)); exact rfl) | (apply WPL_gt; exact rfl; exact rfl; exact rfl; (first | exact WT_move rfl | (apply g_load; first | exact WT_load (k := 1) rfl rfl rfl rfl) | (apply g_fld; first | exact WT_field rfl rfl rfl) | (apply g_bin; first | exact WT_geq rfl rfl)); exact rfl) | refine WP_block ?_ | refine WP_skip ?_ | (apply WPL_op0; exact rfl; first | (apply g_callf; first | (refine WO_call Tryd.func44 rfl hexp rfl ?_; rintro _ _ ⟨rfl, rfl⟩) | (refine WO_call Tryd.func42 rfl (r14index_any _ _) rfl ?_; rintro _ _ ⟨rfl, rfl⟩)) | (apply g_alloc; refine WO_alloc ?_; intro _) | (apply g_store; first | refine WO_store (k := 0) (l0 := []) rfl rfl rfl ?_ | refine WO_store (k := 1) (l0 := []) rfl rfl rfl ?_)) | (refine WP_cond rfl (fun hb => ?_) (fun hb => ?_) <;> (repeat (first | replace hb := dec_t hb | replace hb := dec_f hb | replace hb := not_t hb | replace hb := not_f hb)) <;> (try (exfalso; first | omega)))))
          all_goals (try (exfalso; omega))
          all_goals (try contradiction)
          rename_i b17 b18
          constructor
          refine WP_leads (env' := [(1, ex (.pointer (some ⟨b1, 0, none⟩))), (2, ex (.pointer (some ⟨b2, 0, none⟩))), (4, ex (.pointer (some ⟨b4, 0, none⟩))), (9, exB (true && (true && true))), (10, ex (.pointer (some ⟨b10, 0, none⟩))), (16, exI .i64 (i : Int)), (17, ex (.pointer (some ⟨b17, 0, none⟩)))]) (loc' := row b17 49 13 (roundV k (r.roundN r.rounds[i])) :: vec v 49 13 i (((r.rounds.take i).map r.roundN).flatMap (roundV k)) :: row b10 28 9 [exT r.name, isl eCrit r.crits, isl eItem r.bonus, isl eItem r.malus, isl eTie (r.ties.map r.tieN), ex v, isl eI r.prizes, isl eI r.points, exI .i64 r.best] :: [row b4 37 4 (nmsV r.n0 r.n1 r.n2 r.n3), row b2 28 9 [ex (.string .empty), ex (.slice none 0 0), ex (.slice none 0 0), ex (.slice none 0 0), ex (.slice none 0 0), ex (.slice none 0 0), ex (.slice none 0 0), ex (.slice none 0 0), ex (.int .i64 0)], row b1 28 9 (rulesV k r)]) ?_ ?_
          · unfold RulesD.roundN
            rw [Ex.res_l]
            simp only [if_pos ht]
            exact Leads_envd 1 (by repeat (first | exact sub_nil | refine sub_cons rfl ?_)) rfl
          (repeat' (first | (apply at_store; refine WPL_vv (k := 2) rfl (by omega) ?_; intro _ _ hv; subst hv) | refine WP_region ?_ | refine WPL_nil ?_ | (apply WPL_t; (first | exact WT_move rfl | exact WT_assign rfl | (apply g_load; first | exact WT_load (k := 2) rfl rfl rfl rfl | exact WT_loada2 (k := 0) rfl rfl rfl) | (apply g_fld; first | exact WT_field rfl rfl rfl) | (apply g_bin; first | exact WT_add rfl rfl)); exact rfl) | (apply WPL_op0; exact rfl; first | (apply g_store; first | refine WO_store (k := 3) (l0 := []) rfl rfl rfl ?_) | (apply g_append; (first | (refine WO_append (k := 2) (l0 := []) rfl rfl (by first | exact Src_rowW (k := 0) rfl rfl) rfl ?_)); intro _) | (apply g_bslice; (first | refine WO_bslice1 rfl rfl ?_); intro _))))
          rename_i v3 c3
          refine ⟨(i + 1, .slice (some ⟨v3, 0, none⟩) (i + 1) c3), by show i + 1 ≤ _; omega, by show r.rounds.length - (i + 1) < r.rounds.length - i; omega, ?_⟩
          rw [eO]
          simp only [List.take_succ_eq_append_getElem hlt, List.map_append, List.map_cons, List.map_nil, List.flatMap_append, List.flatMap_cons, List.flatMap_nil, List.append_nil]
          exact Leads_envd 2 (by repeat (first | exact sub_nil | refine sub_cons rfl ?_)) rfl
      · rw [decide_eq_false ht, Bool.false_or] at eO
        cases ob <;> cases sb
        · (repeat' (first | (apply at_region 44; refine Stop.out ?_) | refine WP_seq ?_ | refine WP_region ?_ | refine WPL_nil ?_ | (apply WPL_t; (first | exact WT_move rfl | exact WT_assign rfl | exact WT_pick (b := false) rfl (fun e => by cases e) (fun _ => rfl) | exact WT_extract rfl rfl | (apply g_load; first | exact WT_load (k := 1) rfl rfl rfl rfl | exact WT_load (k := 4) rfl rfl rfl rfl | exact WT_loadfa rfl rfl | exact WT_loada2 (k := 0) rfl rfl rfl | exact WT_loada2 (k := 3) rfl rfl rfl) | (apply g_fld; first | exact WT_field rfl rfl rfl) | (apply g_bin; first | exact WT_tne rfl rfl | exact WT_lss rfl rfl) | (apply g_index; first | exact WT_index rfl rfl rfl | exact WT_indexa rfl rfl rfl) | (apply g_call; first | exact WT_len rfl rfl)); exact rfl) | (refine WPL_off rfl rfl rfl rfl rfl ?_) | refine WP_block ?_ | refine WP_skip ?_ | (apply WPL_op0; exact rfl; first | (apply g_callf; first | (refine WO_call Tryd.func44 rfl hexp rfl ?_; rintro _ _ ⟨rfl, rfl⟩) | (refine WO_call Tryd.func42 rfl (r14index_any _ _) rfl ?_; rintro _ _ ⟨rfl, rfl⟩)) | (apply g_alloc; refine WO_alloc ?_; intro _) | (apply g_store; first | refine WO_store (k := 0) (l0 := []) rfl rfl rfl ?_ | refine WO_store (k := 1) (l0 := []) rfl rfl rfl ?_)) | (refine WP_cond rfl (fun hb => ?_) (fun hb => ?_) <;> (repeat (first | replace hb := dec_t hb | replace hb := dec_f hb | replace hb := not_t hb | replace hb := not_f hb)) <;> (try (exfalso; first | omega)))))
          all_goals (try (exfalso; omega))
          all_goals (try contradiction)
          rename_i b17 b18
          constructor
          refine WP_leads (env' := [(1, ex (.pointer (some ⟨b1, 0, none⟩))), (2, ex (.pointer (some ⟨b2, 0, none⟩))), (4, ex (.pointer (some ⟨b4, 0, none⟩))), (9, exB (false && (false && decide (0 ≤ indexF r.n2 r.rounds[i].tie)))), (10, ex (.pointer (some ⟨b10, 0, none⟩))), (16, exI .i64 (i : Int)), (17, ex (.pointer (some ⟨b17, 0, none⟩)))]) (loc' := row b17 49 13 (roundV k (r.roundN r.rounds[i])) :: vec v 49 13 i (((r.rounds.take i).map r.roundN).flatMap (roundV k)) :: row b10 28 9 [exT r.name, isl eCrit r.crits, isl eItem r.bonus, isl eItem r.malus, isl eTie (r.ties.map r.tieN), ex v, isl eI r.prizes, isl eI r.points, exI .i64 r.best] :: [row b4 37 4 (nmsV r.n0 r.n1 r.n2 r.n3), row b2 28 9 [ex (.string .empty), ex (.slice none 0 0), ex (.slice none 0 0), ex (.slice none 0 0), ex (.slice none 0 0), ex (.slice none 0 0), ex (.slice none 0 0), ex (.slice none 0 0), ex (.int .i64 0)], row b1 28 9 (rulesV k r)]) ?_ ?_
          · unfold RulesD.roundN
            rw [Ex.res_l]
            simp only [if_neg ht]
            exact Leads_envd 1 (by repeat (first | exact sub_nil | refine sub_cons rfl ?_)) rfl
          (repeat' (first | (apply at_store; refine WPL_vv (k := 2) rfl (by omega) ?_; intro _ _ hv; subst hv) | refine WP_region ?_ | refine WPL_nil ?_ | (apply WPL_t; (first | exact WT_move rfl | exact WT_assign rfl | (apply g_load; first | exact WT_load (k := 2) rfl rfl rfl rfl | exact WT_loada2 (k := 0) rfl rfl rfl) | (apply g_fld; first | exact WT_field rfl rfl rfl) | (apply g_bin; first | exact WT_add rfl rfl)); exact rfl) | (apply WPL_op0; exact rfl; first | (apply g_store; first | refine WO_store (k := 3) (l0 := []) rfl rfl rfl ?_) | (apply g_append; (first | (refine WO_append (k := 2) (l0 := []) rfl rfl (by first | exact Src_rowW (k := 0) rfl rfl) rfl ?_)); intro _) | (apply g_bslice; (first | refine WO_bslice1 rfl rfl ?_); intro _))))
          rename_i v3 c3
          refine ⟨(i + 1, .slice (some ⟨v3, 0, none⟩) (i + 1) c3), by show i + 1 ≤ _; omega, by show r.rounds.length - (i + 1) < r.rounds.length - i; omega, ?_⟩
          rw [eO]
          simp only [List.take_succ_eq_append_getElem hlt, List.map_append, List.map_cons, List.map_nil, List.flatMap_append, List.flatMap_cons, List.flatMap_nil, List.append_nil]
          exact Leads_envd 2 (by repeat (first | exact sub_nil | refine sub_cons rfl ?_)) rfl
        · (repeat' (first | (apply at_region 44; refine Stop.out ?_) | refine WP_seq ?_ | refine WP_region ?_ | refine WPL_nil ?_ | (apply WPL_t; (first | exact WT_move rfl | exact WT_assign rfl | exact WT_pick (b := false) rfl (fun e => by cases e) (fun _ => rfl) | exact WT_extract rfl rfl | (apply g_load; first | exact WT_load (k := 1) rfl rfl rfl rfl | exact WT_load (k := 4) rfl rfl rfl rfl | exact WT_loadfa rfl rfl | exact WT_loada2 (k := 0) rfl rfl rfl | exact WT_loada2 (k := 3) rfl rfl rfl) | (apply g_fld; first | exact WT_field rfl rfl rfl) | (apply g_bin; first | exact WT_tne rfl rfl | exact WT_lss rfl rfl) | (apply g_index; first | exact WT_index rfl rfl rfl | exact WT_indexa rfl rfl rfl) | (apply g_call; first | exact WT_len rfl rfl)); exact rfl) | (refine WPL_off rfl rfl rfl rfl rfl ?_) | refine WP_block ?_ | refine WP_skip ?_ | (apply WPL_op0; exact rfl; first | (apply g_callf; first | (refine WO_call Tryd.func44 rfl hexp rfl ?_; rintro _ _ ⟨rfl, rfl⟩) | (refine WO_call Tryd.func42 rfl (r14index_any _ _) rfl ?_; rintro _ _ ⟨rfl, rfl⟩)) | (apply g_alloc; refine WO_alloc ?_; intro _) | (apply g_store; first | refine WO_store (k := 0) (l0 := []) rfl rfl rfl ?_ | refine WO_store (k := 1) (l0 := []) rfl rfl rfl ?_)) | (refine WP_cond rfl (fun hb => ?_) (fun hb => ?_) <;> (repeat (first | replace hb := dec_t hb | replace hb := dec_f hb | replace hb := not_t hb | replace hb := not_f hb)) <;> (try (exfalso; first | omega)))))
          all_goals (try (exfalso; omega))
          all_goals (try contradiction)
          rename_i b17 b18
          constructor
          refine WP_leads (env' := [(1, ex (.pointer (some ⟨b1, 0, none⟩))), (2, ex (.pointer (some ⟨b2, 0, none⟩))), (4, ex (.pointer (some ⟨b4, 0, none⟩))), (9, exB (false && (true && decide (0 ≤ indexF r.n2 r.rounds[i].tie)))), (10, ex (.pointer (some ⟨b10, 0, none⟩))), (16, exI .i64 (i : Int)), (17, ex (.pointer (some ⟨b17, 0, none⟩)))]) (loc' := row b17 49 13 (roundV k (r.roundN r.rounds[i])) :: vec v 49 13 i (((r.rounds.take i).map r.roundN).flatMap (roundV k)) :: row b10 28 9 [exT r.name, isl eCrit r.crits, isl eItem r.bonus, isl eItem r.malus, isl eTie (r.ties.map r.tieN), ex v, isl eI r.prizes, isl eI r.points, exI .i64 r.best] :: [row b4 37 4 (nmsV r.n0 r.n1 r.n2 r.n3), row b2 28 9 [ex (.string .empty), ex (.slice none 0 0), ex (.slice none 0 0), ex (.slice none 0 0), ex (.slice none 0 0), ex (.slice none 0 0), ex (.slice none 0 0), ex (.slice none 0 0), ex (.int .i64 0)], row b1 28 9 (rulesV k r)]) ?_ ?_
          · unfold RulesD.roundN
            rw [Ex.res_l]
            simp only [if_neg ht]
            exact Leads_envd 1 (by repeat (first | exact sub_nil | refine sub_cons rfl ?_)) rfl
          (repeat' (first | (apply at_store; refine WPL_vv (k := 2) rfl (by omega) ?_; intro _ _ hv; subst hv) | refine WP_region ?_ | refine WPL_nil ?_ | (apply WPL_t; (first | exact WT_move rfl | exact WT_assign rfl | (apply g_load; first | exact WT_load (k := 2) rfl rfl rfl rfl | exact WT_loada2 (k := 0) rfl rfl rfl) | (apply g_fld; first | exact WT_field rfl rfl rfl) | (apply g_bin; first | exact WT_add rfl rfl)); exact rfl) | (apply WPL_op0; exact rfl; first | (apply g_store; first | refine WO_store (k := 3) (l0 := []) rfl rfl rfl ?_) | (apply g_append; (first | (refine WO_append (k := 2) (l0 := []) rfl rfl (by first | exact Src_rowW (k := 0) rfl rfl) rfl ?_)); intro _) | (apply g_bslice; (first | refine WO_bslice1 rfl rfl ?_); intro _))))
          rename_i v3 c3
          refine ⟨(i + 1, .slice (some ⟨v3, 0, none⟩) (i + 1) c3), by show i + 1 ≤ _; omega, by show r.rounds.length - (i + 1) < r.rounds.length - i; omega, ?_⟩
          rw [eO]
          simp only [List.take_succ_eq_append_getElem hlt, List.map_append, List.map_cons, List.map_nil, List.flatMap_append, List.flatMap_cons, List.flatMap_nil, List.append_nil]
          exact Leads_envd 2 (by repeat (first | exact sub_nil | refine sub_cons rfl ?_)) rfl
        · (repeat' (first | (apply at_region 44; refine Stop.out ?_) | refine WP_seq ?_ | refine WP_region ?_ | refine WPL_nil ?_ | (apply WPL_t; (first | exact WT_move rfl | exact WT_assign rfl | exact WT_pick (b := true) rfl (fun _ => rfl) (fun e => by cases e) | exact WT_pick (b := false) rfl (fun e => by cases e) (fun _ => rfl) | exact WT_extract rfl rfl | (apply g_load; first | exact WT_load (k := 1) rfl rfl rfl rfl | exact WT_load (k := 4) rfl rfl rfl rfl | exact WT_loadfa rfl rfl | exact WT_loada2 (k := 0) rfl rfl rfl | exact WT_loada2 (k := 3) rfl rfl rfl) | (apply g_fld; first | exact WT_field rfl rfl rfl) | (apply g_bin; first | exact WT_tne rfl rfl | exact WT_lss rfl rfl) | (apply g_index; first | exact WT_index rfl rfl rfl | exact WT_indexa rfl rfl rfl) | (apply g_call; first | exact WT_len rfl rfl)); exact rfl) | (refine WPL_off rfl rfl rfl rfl rfl ?_) | (apply WPL_gt; exact rfl; exact rfl; exact rfl; (first | exact WT_move rfl); exact rfl) | refine WP_block ?_ | refine WP_skip ?_ | (apply WPL_op0; exact rfl; first | (apply g_callf; first | (refine WO_call Tryd.func44 rfl hexp rfl ?_; rintro _ _ ⟨rfl, rfl⟩) | (refine WO_call Tryd.func42 rfl (r14index_any _ _) rfl ?_; rintro _ _ ⟨rfl, rfl⟩)) | (apply g_alloc; refine WO_alloc ?_; intro _) | (apply g_store; first | refine WO_store (k := 0) (l0 := []) rfl rfl rfl ?_ | refine WO_store (k := 1) (l0 := []) rfl rfl rfl ?_)) | (refine WP_cond rfl (fun hb => ?_) (fun hb => ?_) <;> (repeat (first | replace hb := dec_t hb | replace hb := dec_f hb | replace hb := not_t hb | replace hb := not_f hb)) <;> (try (exfalso; first | omega)))))
          all_goals (try (exfalso; omega))
          all_goals (try contradiction)
          rename_i b17 b18
          constructor
          refine WP_leads (env' := [(1, ex (.pointer (some ⟨b1, 0, none⟩))), (2, ex (.pointer (some ⟨b2, 0, none⟩))), (4, ex (.pointer (some ⟨b4, 0, none⟩))), (9, exB (true && (false && decide (0 ≤ indexF r.n2 r.rounds[i].tie)))), (10, ex (.pointer (some ⟨b10, 0, none⟩))), (16, exI .i64 (i : Int)), (17, ex (.pointer (some ⟨b17, 0, none⟩)))]) (loc' := row b17 49 13 (roundV k (r.roundN r.rounds[i])) :: vec v 49 13 i (((r.rounds.take i).map r.roundN).flatMap (roundV k)) :: row b10 28 9 [exT r.name, isl eCrit r.crits, isl eItem r.bonus, isl eItem r.malus, isl eTie (r.ties.map r.tieN), ex v, isl eI r.prizes, isl eI r.points, exI .i64 r.best] :: [row b4 37 4 (nmsV r.n0 r.n1 r.n2 r.n3), row b2 28 9 [ex (.string .empty), ex (.slice none 0 0), ex (.slice none 0 0), ex (.slice none 0 0), ex (.slice none 0 0), ex (.slice none 0 0), ex (.slice none 0 0), ex (.slice none 0 0), ex (.int .i64 0)], row b1 28 9 (rulesV k r)]) ?_ ?_
          · unfold RulesD.roundN
            rw [Ex.res_l]
            simp only [if_neg ht]
            exact Leads_envd 1 (by repeat (first | exact sub_nil | refine sub_cons rfl ?_)) rfl
          (repeat' (first | (apply at_store; refine WPL_vv (k := 2) rfl (by omega) ?_; intro _ _ hv; subst hv) | refine WP_region ?_ | refine WPL_nil ?_ | (apply WPL_t; (first | exact WT_move rfl | exact WT_assign rfl | (apply g_load; first | exact WT_load (k := 2) rfl rfl rfl rfl | exact WT_loada2 (k := 0) rfl rfl rfl) | (apply g_fld; first | exact WT_field rfl rfl rfl) | (apply g_bin; first | exact WT_add rfl rfl)); exact rfl) | (apply WPL_op0; exact rfl; first | (apply g_store; first | refine WO_store (k := 3) (l0 := []) rfl rfl rfl ?_) | (apply g_append; (first | (refine WO_append (k := 2) (l0 := []) rfl rfl (by first | exact Src_rowW (k := 0) rfl rfl) rfl ?_)); intro _) | (apply g_bslice; (first | refine WO_bslice1 rfl rfl ?_); intro _))))
          rename_i v3 c3
          refine ⟨(i + 1, .slice (some ⟨v3, 0, none⟩) (i + 1) c3), by show i + 1 ≤ _; omega, by show r.rounds.length - (i + 1) < r.rounds.length - i; omega, ?_⟩
          rw [eO]
          simp only [List.take_succ_eq_append_getElem hlt, List.map_append, List.map_cons, List.map_nil, List.flatMap_append, List.flatMap_cons, List.flatMap_nil, List.append_nil]
          exact Leads_envd 2 (by repeat (first | exact sub_nil | refine sub_cons rfl ?_)) rfl
        · (repeat' (first | (apply at_region 44; refine Stop.out ?_) | refine WP_seq ?_ | refine WP_region ?_ | refine WPL_nil ?_ | (apply WPL_t; (first | exact WT_move rfl | exact WT_assign rfl | exact WT_pick (b := true) rfl (fun _ => rfl) (fun e => by cases e) | exact WT_extract rfl rfl | (apply g_load; first | exact WT_load (k := 1) rfl rfl rfl rfl | exact WT_load (k := 4) rfl rfl rfl rfl | exact WT_loadfa rfl rfl | exact WT_loada2 (k := 0) rfl rfl rfl | exact WT_loada2 (k := 3) rfl rfl rfl) | (apply g_fld; first | exact WT_field rfl rfl rfl) | (apply g_bin; first | exact WT_tne rfl rfl | exact WT_lss rfl rfl) | (apply g_index; first | exact WT_index rfl rfl rfl | exact WT_indexa rfl rfl rfl) | (apply g_call; first | exact WT_len rfl rfl)); exact rfl) | (apply WPL_gt; exact rfl; exact rfl; exact rfl; (first | exact WT_move rfl | (apply g_load; first | exact WT_load (k := 1) rfl rfl rfl rfl) | (apply g_fld; first | exact WT_field rfl rfl rfl) | (apply g_bin; first | exact WT_geq rfl rfl)); exact rfl) | refine WP_block ?_ | refine WP_skip ?_ | (apply WPL_op0; exact rfl; first | (apply g_callf; first | (refine WO_call Tryd.func44 rfl hexp rfl ?_; rintro _ _ ⟨rfl, rfl⟩) | (refine WO_call Tryd.func42 rfl (r14index_any _ _) rfl ?_; rintro _ _ ⟨rfl, rfl⟩)) | (apply g_alloc; refine WO_alloc ?_; intro _) | (apply g_store; first | refine WO_store (k := 0) (l0 := []) rfl rfl rfl ?_ | refine WO_store (k := 1) (l0 := []) rfl rfl rfl ?_)) | (refine WP_cond rfl (fun hb => ?_) (fun hb => ?_) <;> (repeat (first | replace hb := dec_t hb | replace hb := dec_f hb | replace hb := not_t hb | replace hb := not_f hb)) <;> (try (exfalso; first | omega)))))
          all_goals (try (exfalso; omega))
          all_goals (try contradiction)
          rename_i b17 b18
          constructor
          refine WP_leads (env' := [(1, ex (.pointer (some ⟨b1, 0, none⟩))), (2, ex (.pointer (some ⟨b2, 0, none⟩))), (4, ex (.pointer (some ⟨b4, 0, none⟩))), (9, exB (true && (true && decide (0 ≤ indexF r.n2 r.rounds[i].tie)))), (10, ex (.pointer (some ⟨b10, 0, none⟩))), (16, exI .i64 (i : Int)), (17, ex (.pointer (some ⟨b17, 0, none⟩)))]) (loc' := row b17 49 13 (roundV k (r.roundN r.rounds[i])) :: vec v 49 13 i (((r.rounds.take i).map r.roundN).flatMap (roundV k)) :: row b10 28 9 [exT r.name, isl eCrit r.crits, isl eItem r.bonus, isl eItem r.malus, isl eTie (r.ties.map r.tieN), ex v, isl eI r.prizes, isl eI r.points, exI .i64 r.best] :: [row b4 37 4 (nmsV r.n0 r.n1 r.n2 r.n3), row b2 28 9 [ex (.string .empty), ex (.slice none 0 0), ex (.slice none 0 0), ex (.slice none 0 0), ex (.slice none 0 0), ex (.slice none 0 0), ex (.slice none 0 0), ex (.slice none 0 0), ex (.int .i64 0)], row b1 28 9 (rulesV k r)]) ?_ ?_
          · unfold RulesD.roundN
            rw [Ex.res_l]
            simp only [if_neg ht]
            exact Leads_envd 1 (by repeat (first | exact sub_nil | refine sub_cons rfl ?_)) rfl
          (repeat' (first | (apply at_store; refine WPL_vv (k := 2) rfl (by omega) ?_; intro _ _ hv; subst hv) | refine WP_region ?_ | refine WPL_nil ?_ | (apply WPL_t; (first | exact WT_move rfl | exact WT_assign rfl | (apply g_load; first | exact WT_load (k := 2) rfl rfl rfl rfl | exact WT_loada2 (k := 0) rfl rfl rfl) | (apply g_fld; first | exact WT_field rfl rfl rfl) | (apply g_bin; first | exact WT_add rfl rfl)); exact rfl) | (apply WPL_op0; exact rfl; first | (apply g_store; first | refine WO_store (k := 3) (l0 := []) rfl rfl rfl ?_) | (apply g_append; (first | (refine WO_append (k := 2) (l0 := []) rfl rfl (by first | exact Src_rowW (k := 0) rfl rfl) rfl ?_)); intro _) | (apply g_bslice; (first | refine WO_bslice1 rfl rfl ?_); intro _))))
          rename_i v3 c3
          refine ⟨(i + 1, .slice (some ⟨v3, 0, none⟩) (i + 1) c3), by show i + 1 ≤ _; omega, by show r.rounds.length - (i + 1) < r.rounds.length - i; omega, ?_⟩
          rw [eO]
          simp only [List.take_succ_eq_append_getElem hlt, List.map_append, List.map_cons, List.map_nil, List.flatMap_append, List.flatMap_cons, List.flatMap_nil, List.append_nil]
          exact Leads_envd 2 (by repeat (first | exact sub_nil | refine sub_cons rfl ?_)) rfl
    · have hk9 : i = r.rounds.length := by omega
      subst hk9
      rw [List.take_length]
      have eA : (r.ties.all r.tieOk && r.rounds.all r.roundOk) = r.allOk := rfl
      rw [eA]
      cases hA : r.allOk
      · (repeat' (first | refine WP_seq ?_ | refine WP_region ?_ | refine WPL_nil ?_ | (apply WPL_t; (first | exact WT_move rfl | exact WT_assign rfl | (apply g_load; first | exact WT_load (k := 4) rfl rfl rfl rfl) | (apply g_fld; first | exact WT_field rfl rfl rfl) | (apply g_bin; first | exact WT_lss rfl rfl) | (apply g_call; first | exact WT_len rfl rfl) | (apply g_un; first | exact WT_not rfl) | (apply g_build; first | exact WT_build2 rfl rfl (by repeat (first | exact PartsO.nil)))); exact rfl) | refine WP_ret ?_ | refine WP_exit ?_ | refine WP_cond_t rfl ?_ | (apply WPL_op0; exact rfl; first | (apply g_store; first | refine WO_store (k := 3) (l0 := []) rfl rfl rfl ?_)) | (refine WP_cond rfl (fun hb => ?_) (fun hb => ?_) <;> (repeat (first | replace hb := dec_t hb | replace hb := dec_f hb)) <;> (try (exfalso; first | omega)))))
        all_goals (try (exfalso; omega))
        (refine ⟨.inr rfl, retw (loc' := []) (by first | exact ret2 rfl (.cella (k := 3) rfl rfl rfl rfl inferInstance rfl) (.tmp rfl) (List.nil_sublist _) ⟨rfl, rfl⟩) ?_ ⟨rfl, rfl⟩⟩)
        exact Ims.tup (.cons (im_zero' k) (.cons (.refl _) .nil))
      · (repeat' (first | (apply cut_at 47; refine Stop.out ?_) | refine WP_seq ?_ | refine WP_region ?_ | refine WPL_nil ?_ | (apply WPL_t; (first | exact WT_move rfl | (apply g_load; first | exact WT_load (k := 4) rfl rfl rfl rfl) | (apply g_fld; first | exact WT_field rfl rfl rfl) | (apply g_bin; first | exact WT_lss rfl rfl) | (apply g_call; first | exact WT_len rfl rfl) | (apply g_un; first | exact WT_not rfl)); exact rfl) | refine WP_skip ?_ | refine WP_exit ?_ | refine WP_cond_f rfl ?_ | (refine WP_cond rfl (fun hb => ?_) (fun hb => ?_) <;> (repeat (first | replace hb := dec_t hb | replace hb := dec_f hb)) <;> (try (exfalso; first | omega)))))
        all_goals (try (exfalso; omega))
        constructor
        apply WP_leads
        · exact Leads_fcell (j := 0) (k := 0) (i := 5) (E := eRound k) (r.rounds.map r.roundN) rfl rfl rfl (by simp) rfl rfl (hby := by show _ * 136 ≤ _; omega)
        (repeat' (first | refine WP_seq ?_ | refine WP_region ?_ | refine WPL_nil ?_ | (apply WPL_t; (first | exact WT_assign rfl | (apply g_load; first | exact WT_loada2 (k := 0) rfl rfl rfl)); exact rfl) | refine WP_ret ?_ | (apply WPL_op0; exact rfl; first | (apply g_store; first | refine WO_store (k := 2) (l0 := []) rfl rfl rfl ?_))))
        (refine ⟨.inr rfl, retw (loc' := []) (by first | exact ret2 rfl (.cella (k := 2) rfl rfl rfl rfl inferInstance rfl) (.tmp rfl) (List.nil_sublist _) ⟨rfl, rfl⟩) ?_ ⟨rfl, rfl⟩⟩)
        exact Im.refl _
end Go.Proofs.YtjjjblegnjiaoaaDoor

/- Check of the specification. -/
-- STRINGS
namespace Go.Proofs.YtjjjblegnjiaoaaDoor
open Go Go.RowKit Go.Kx Go.Fr
set_option maxHeartbeats 1000000 in
set_option maxRecDepth 100000 in
theorem r14check_any (k : Nat) (r : RulesD) (hf : r.few = true) : FnC Tryd.prog 13 [rul k r] [] (fun p loc => p = exI .i64 (r.check freeF) ∧ loc = []) := by
  have hres := r14resolve_any k r hf
  generalize hx : (r.resolve freeF).1 = x at hres
  generalize he : (r.resolve freeF).2 = e at hres
  unfold RulesD.check
  rw [hx, he]
  refine FnC_enter Tryd.func13 rfl Tryd.ntmps13 rfl fun w0 F0 out => ?_
  by_cases h0 : e = 0
  · rw [if_neg (by simpa using h0)]
    by_cases hs : x = r
    · rw [if_pos hs]
      (repeat' (first | refine WP_seq ?_ | refine WP_region ?_ | refine WPL_nil ?_ | (apply WPL_t; (first | exact WT_move rfl | exact WT_assign rfl | exact WT_extract rfl rfl | (apply g_load; first | exact WT_loada2 (k := 0) rfl rfl rfl | exact WT_loada2 (k := 1) rfl rfl rfl) | (apply g_bin; first | exact WT_neq rfl rfl) | (apply g_un; first | exact WT_not rfl)); exact rfl) | refine WP_skip ?_ | refine WP_ret ?_ | (apply WPL_op0; exact rfl; first | (apply g_callf; first | (refine WO_call Tryd.func10 rfl hres rfl ?_; rintro _ _ ⟨rfl, rfl⟩) | (refine WO_call Tryd.func11 rfl (same14_any _ _ _ _) rfl ?_; rintro _ _ ⟨rfl, rfl⟩)) | (apply g_box; refine WO_box rfl ?_; intro _) | (apply g_alloc; refine WO_alloc ?_; intro _) | (apply g_store; first | refine WO_store (k := 0) (l0 := []) rfl rfl rfl ?_)) | (refine WP_cond rfl (fun hb => ?_) (fun hb => ?_) <;> (repeat (first | replace hb := dec_t hb | replace hb := dec_f hb | replace hb := not_t hb | replace hb := not_f hb)) <;> (try (exfalso; first | omega)))))
      all_goals (try (exfalso; first | contradiction | omega))
      exact ⟨.inr rfl, ret1 rfl (.tmp rfl) (List.nil_sublist _) ⟨rfl, rfl⟩⟩
    · rw [if_neg hs]
      (repeat' (first | refine WP_seq ?_ | refine WP_region ?_ | refine WPL_nil ?_ | (apply WPL_t; (first | exact WT_move rfl | exact WT_assign rfl | exact WT_extract rfl rfl | (apply g_load; first | exact WT_loada2 (k := 0) rfl rfl rfl | exact WT_loada2 (k := 1) rfl rfl rfl) | (apply g_bin; first | exact WT_neq rfl rfl) | (apply g_un; first | exact WT_not rfl)); exact rfl) | refine WP_skip ?_ | refine WP_ret ?_ | (apply WPL_op0; exact rfl; first | (apply g_callf; first | (refine WO_call Tryd.func10 rfl hres rfl ?_; rintro _ _ ⟨rfl, rfl⟩) | (refine WO_call Tryd.func11 rfl (same14_any _ _ _ _) rfl ?_; rintro _ _ ⟨rfl, rfl⟩)) | (apply g_box; refine WO_box rfl ?_; intro _) | (apply g_alloc; refine WO_alloc ?_; intro _) | (apply g_store; first | refine WO_store (k := 0) (l0 := []) rfl rfl rfl ?_)) | (refine WP_cond rfl (fun hb => ?_) (fun hb => ?_) <;> (repeat (first | replace hb := dec_t hb | replace hb := dec_f hb | replace hb := not_t hb | replace hb := not_f hb)) <;> (try (exfalso; first | omega)))))
      all_goals (try (exfalso; first | contradiction | omega))
      exact ⟨.inr rfl, ret1 rfl (.tmp rfl) (List.nil_sublist _) ⟨rfl, rfl⟩⟩
  · rw [if_pos h0]
    (repeat' (first | refine WP_seq ?_ | refine WP_region ?_ | refine WPL_nil ?_ | (apply WPL_t; (first | exact WT_move rfl | exact WT_assign rfl | exact WT_extract rfl rfl | (apply g_load; first | exact WT_loada2 (k := 0) rfl rfl rfl) | (apply g_bin; first | exact WT_neq rfl rfl)); exact rfl) | refine WP_ret ?_ | (apply WPL_op0; exact rfl; first | (apply g_callf; first | (refine WO_call Tryd.func10 rfl hres rfl ?_; rintro _ _ ⟨rfl, rfl⟩)) | (apply g_box; refine WO_box rfl ?_; intro _) | (apply g_alloc; refine WO_alloc ?_; intro _) | (apply g_store; first | refine WO_store (k := 0) (l0 := []) rfl rfl rfl ?_)) | (refine WP_cond rfl (fun hb => ?_) (fun hb => ?_) <;> (repeat (first | replace hb := dec_t hb | replace hb := dec_f hb | replace hb := not_t hb | replace hb := not_f hb)) <;> (try (exfalso; first | omega)))))
    all_goals (try (exfalso; first | contradiction | omega))
    exact ⟨.inr rfl, ret1 rfl (.tmp rfl) (List.nil_sublist _) ⟨rfl, rfl⟩⟩
end Go.Proofs.YtjjjblegnjiaoaaDoor

/- NamesSpec: the walk. -/
-- STRINGS
-- ROWS
namespace Go.Proofs.YtjjjblegnjiaoaaDoor
open Go Go.RowKit Go.Kx Go.Fr
theorem hH_tab {H : Nat → Prop} : ∀ b, H b → ∀ e ∈ [Tab], b ∉ e.foot := fun b _ e he hb => by
  rw [List.mem_singleton] at he; subst he; cases hb
set_option maxHeartbeats 2000000 in
set_option maxRecDepth 100000 in
theorem namesSpec_any (k : Nat) (r : RulesD) : FnC Tryd.prog 3 [rul k r] [Tab] (fun p loc => p = exB true ∧ loc = []) := by
  refine FnC_enter Tryd.func3 rfl Tryd.ntmps3 rfl fun w0 F0 out => ?_
  have h0 := few14_any k r
  by_cases hf : r.few = true
  · rw [hf] at h0
    have h1 := nresolve_any k r hf
    have h2 := r14resolve_any k r hf
    have h4 := ncheck_any k r hf
    have h5 := r14check_any k r hf
    generalize r.resolve freeF = z at h1 h2
    generalize r.check freeF = e2 at h4 h5
    obtain ⟨x, e⟩ := z
    simp only at h1 h2
    have h3 := same14_any k k x x
    rw [decide_eq_true rfl] at h3
    (repeat' (first | refine WP_seq ?_ | refine WP_region ?_ | refine WPL_nil ?_ | (apply WPL_t; (first | exact WT_move rfl | exact WT_assign rfl | exact WT_extract rfl rfl | (apply g_load; first | exact WT_loada2 (k := 0) rfl rfl rfl | exact WT_loada2 (k := 1) rfl rfl rfl) | (apply g_un; first | exact WT_not rfl)); exact rfl) | refine WP_skip ?_ | refine WP_cond_f rfl ?_ | (apply WPL_op0; exact rfl; first | (apply g_callf; first | (refine WO_callG (.dup 1 rfl rfl .nil) Tryd.func7 rfl sane14_any rfl ?_; rintro _ _ ⟨rfl, rfl⟩) | (refine WO_call Tryd.func8 rfl h0 rfl ?_; rintro _ _ ⟨rfl, rfl⟩) | (refine WO_callG (.dup 1 rfl rfl .nil) Tryd.func9 rfl h1 rfl ?_; rintro _ _ ⟨rfl, rfl⟩) | (refine WO_call Tryd.func10 rfl h2 rfl ?_; rintro _ _ ⟨rfl, rfl⟩)) | (apply g_box; refine WO_box rfl ?_; intro _) | (apply g_alloc; refine WO_alloc ?_; intro _) | (apply g_store; first | refine WO_store (k := 0) (l0 := []) rfl rfl rfl ?_))))
    all_goals (try (exfalso; first | contradiction | omega))
    (refine WP_drawl 16 rfl ?_)
    all_goals ((apply WPY_take 0 rfl (by decide +kernel) rfl (by decide +kernel) (by repeat (first | exact np_ret)) guard_none; (first | (apply g_load; first | exact WT_loada2 (k := 1) rfl rfl rfl)); exact rfl))
    all_goals ((apply WPY_take 1 rfl (by decide +kernel) rfl (by decide +kernel) (by repeat (first | exact np_ret)) guard_none; (first | (apply g_load; first | exact WT_loada2 (k := 0) rfl rfl rfl)); exact rfl))
    all_goals (first | (apply WPY_one 2; exact (by decide +kernel); exact rfl; exact guard_none; exact (fun _ _ h => h); first | (apply g_callf; first | (refine WO_call Tryd.func11 rfl h3 rfl ?_; rintro _ _ ⟨rfl, rfl⟩))))
    all_goals ((apply WPY_pure 3 rfl (by decide +kernel) rfl (by repeat (first | exact np_ret)) guard_none; (first | exact WT_move rfl); exact rfl))
    all_goals (first | (refine WPY_case 25 rfl (fun hb => ?_) (fun hb => ?_) <;> (repeat (first | replace hb := dec_t hb | replace hb := dec_f hb | replace hb := not_t hb | replace hb := not_f hb)) <;> (try (exfalso; first | (cases hb; done) | omega))) | skip)
    all_goals (first | (apply WPY_pure 4 rfl (by decide +kernel) rfl (by repeat (first | exact np_ret)) (guard_some rfl rfl rfl); (first | exact WT_move rfl); exact rfl))
    all_goals (first | (apply WPY_pure 5 rfl (by decide +kernel) rfl (by repeat (first | exact np_ret)) (guard_some rfl rfl rfl); (first | exact WT_move rfl); exact rfl))
    all_goals (first | (apply WPY_pure 6 rfl (by decide +kernel) rfl (by repeat (first | exact np_ret)) (guard_some rfl rfl rfl); (first | (apply g_bin; first | exact WT_eql rfl rfl)); exact rfl))
    all_goals ((apply WPY_pure 7 rfl (by decide +kernel) rfl (by repeat (first | exact np_ret)) guard_none; (first | exact WT_pick (b := true) rfl (fun _ => rfl) (fun e => by cases e)); exact rfl))
    all_goals ((apply WPY_pure 8 rfl (by decide +kernel) rfl (by repeat (first | exact np_ret)) guard_none; (first | exact WT_move rfl); exact rfl))
    all_goals (first | (refine WPY_case 30 rfl (fun hb => ?_) (fun hb => ?_) <;> (repeat (first | replace hb := dec_t hb | replace hb := dec_f hb | replace hb := not_t hb | replace hb := not_f hb)) <;> (try (exfalso; first | (cases hb; done) | omega))) | skip)
    all_goals (first | (apply WPY_take 9 rfl (by decide +kernel) rfl (by decide +kernel) (by repeat (first | exact np_ret)) (guard_some rfl rfl rfl); (first | (apply g_load; first | exact WT_loada2 (k := 2) rfl rfl rfl)); exact rfl))
    all_goals (first | (apply WPY_take 11 rfl (by decide +kernel) rfl (by decide +kernel) (by repeat (first | exact np_ret)) (guard_some rfl rfl rfl); (first | (apply g_load; first | exact WT_loada2 (k := 2) rfl rfl rfl)); exact rfl))
    all_goals (first | (apply WPY_one 10; exact (by decide +kernel); exact rfl; exact (guard_some rfl rfl rfl); exact (fun _ _ h => h); first | (apply g_callf; first | (refine WO_callG (.dup 3 rfl rfl .nil) Tryd.func12 rfl h4 rfl ?_ (hH := hH_tab); rintro _ _ ⟨rfl, rfl⟩))))
    all_goals (first | (apply WPY_one 12; exact (by decide +kernel); exact rfl; exact (guard_some rfl rfl rfl); exact (fun _ _ h => h); first | (apply g_callf; first | (refine WO_call Tryd.func13 rfl h5 rfl ?_; rintro _ _ ⟨rfl, rfl⟩))))
    all_goals (first | (apply WPY_pure 13 rfl (by decide +kernel) rfl (by repeat (first | exact np_ret)) (guard_some rfl rfl rfl); (first | (apply g_bin; first | exact WT_eql rfl rfl)); exact rfl))
    all_goals ((apply WPY_pure 14 rfl (by decide +kernel) rfl (by repeat (first | exact np_ret)) guard_none; (first | exact WT_pick (b := true) rfl (fun _ => rfl) (fun e => by cases e)); exact rfl))
    all_goals ((apply WPY_pure 15 rfl (by decide +kernel) rfl (by repeat (first | exact np_ret)) guard_none; (first | exact WT_assign rfl); exact rfl))
    all_goals (refine WPY_done (by decide +kernel) ?_)
    all_goals (refine WP_ret ?_)
    all_goals (exact ⟨.inr rfl, ret1 rfl (.tmp rfl) (List.nil_sublist _) ⟨congrArg exB (by simp), rfl⟩⟩)
  · rw [Bool.not_eq_true] at hf
    rw [hf] at h0
    (repeat' (first | refine WP_seq ?_ | refine WP_region ?_ | refine WPL_nil ?_ | (apply WPL_t; (first | exact WT_assign rfl | (apply g_load; first | exact WT_loada2 (k := 0) rfl rfl rfl) | (apply g_un; first | exact WT_not rfl)); exact rfl) | refine WP_skip ?_ | refine WP_ret ?_ | refine WP_cond_t rfl ?_ | refine WP_cond_f rfl ?_ | (apply WPL_op0; exact rfl; first | (apply g_callf; first | (refine WO_callG (.dup 1 rfl rfl .nil) Tryd.func7 rfl sane14_any rfl ?_; rintro _ _ ⟨rfl, rfl⟩) | (refine WO_call Tryd.func8 rfl h0 rfl ?_; rintro _ _ ⟨rfl, rfl⟩)) | (apply g_box; refine WO_box rfl ?_; intro _))))
    all_goals (try (exfalso; first | contradiction | omega))
    all_goals (exact ⟨.inr rfl, ret1 rfl (.tmp rfl) (List.nil_sublist _) ⟨rfl, rfl⟩⟩)
end Go.Proofs.YtjjjblegnjiaoaaDoor
