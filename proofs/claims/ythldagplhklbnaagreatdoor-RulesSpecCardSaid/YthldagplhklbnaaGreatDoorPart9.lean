/- podiumref15: later, Expanded. -/
import Derived.Test.YthldagplhklbnaaGreatDoorPart8
import Derived.Test.YthldagplhklbnaaGreatDoorPart6
import Derived.Test.YthldagplhklbnaaGreatDoorPart7
namespace Go.Proofs.YthldagplhklbnaaGreatDoor
open Go Go.RowKit Go.Kx Go.Fr
set_option maxHeartbeats 1000000 in
set_option maxRecDepth 100000 in
theorem later15_any (j : Nat) : ∀ (k : Nat) (x : Ex), FnC Tryz.prog 21 [agg (exV k x), exI .i64 (j : Int)] [] (fun p loc => p = exB (x.later j) ∧ loc = []) := by
 intro k
 induction k with
 | zero => intro x; exact FnC_says (i := 0) rfl Says_ex0 fun h => h.elim
 | succ k ih =>
   intro x
   refine FnC_says (i := 0) rfl (Says_agg (i := 4) (p := isl (eEx k) x.l) rfl Says_isl) fun hlen => ?_
   obtain ⟨hlen, -⟩ := hlen
   simp only [maxLen] at hlen
   show FnC Tryz.prog 21 [agg [exI .i64 x.kind, exT x.name, exI .i64 x.n, exI .i64 x.d, isl (eEx k) x.l], exI .i64 (j : Int)] [] (fun p loc => p = exB (x.later j) ∧ loc = [])
   rw [Ex.later_l]
   unfold RulesD.lateN
   refine FnC_enter Tryz.func21 rfl Tryz.ntmps21 rfl fun w0 F0 out => ?_
   (repeat' (first | (apply cuts_at 1; refine Stop.out ?_) | refine WP_seq ?_ | refine WP_region ?_ | refine WPL_nil ?_ | (apply WPL_t; (exact WT_assign rfl); exact rfl) | (apply WPL_op0; exact rfl; (apply g_box; refine WO_box rfl ?_; intro _))))
   refine ⟨WP_leads (Leads_fp (k := 0) (t := 2) rfl rfl) ?_⟩
   by_cases hh : x.kind = 5 ∧ (j : Int) ≤ x.n
   · obtain ⟨hh1, hh2⟩ := hh
     rw [decide_eq_true hh1, decide_eq_true hh2]
     (repeat' (first | refine WP_seq ?_ | refine WP_region ?_ | refine WPL_nil ?_ | (apply WPL_t; (first | exact WT_move rfl | exact WT_assign rfl | exact WT_pick (b := true) rfl (fun _ => rfl) (fun e => by cases e) | (apply g_load; exact WT_loadf rfl rfl) | (apply g_fld; exact WT_fieldf rfl rfl rfl) | (apply g_bin; exact WT_eql rfl rfl)); exact rfl) | (apply WPL_gt; exact rfl; exact rfl; exact rfl; (first | exact WT_move rfl | (apply g_load; exact WT_loadf rfl rfl) | (apply g_fld; exact WT_fieldf rfl rfl rfl) | (apply g_bin; exact WT_geq rfl rfl)); exact rfl) | refine WP_ret ?_ | (refine WPL_case rfl rfl (fun hb => ?_) (fun hb => ?_) <;> (repeat (first | replace hb := dec_t hb | replace hb := dec_f hb)) <;> (try (exfalso; contradiction))) | (refine WP_cond rfl (fun hb => ?_) (fun hb => ?_) <;> (repeat (first | replace hb := dec_t hb | replace hb := dec_f hb)) <;> (try (exfalso; contradiction)))))
     all_goals (try (exfalso; first | contradiction | omega))
     all_goals exact ⟨.inr rfl, ret1 rfl (.tmp rfl) (List.nil_sublist _) ⟨rfl, rfl⟩⟩
   · have hno : (decide (x.kind = 5) && decide ((j : Int) ≤ x.n)) = false := by
       rw [Bool.and_eq_false_iff, decide_eq_false_iff_not, decide_eq_false_iff_not]; omega
     rw [hno, Bool.false_or]
     clear hno
     (repeat' (first | refine WP_seq ?_ | refine WP_region ?_ | refine WPL_nil ?_ | (apply WPL_t; (first | exact WT_move rfl | exact WT_assign rfl | exact WT_pick (b := true) rfl (fun _ => rfl) (fun e => by cases e) | exact WT_pick (b := false) rfl (fun e => by cases e) (fun _ => rfl) | (apply g_load; exact WT_loadf rfl rfl) | (apply g_fld; exact WT_fieldf rfl rfl rfl) | (apply g_bin; exact WT_eql rfl rfl)); exact rfl) | (refine WPL_off rfl rfl rfl rfl rfl ?_) | (apply WPL_gt; exact rfl; exact rfl; exact rfl; (first | exact WT_move rfl | (apply g_load; exact WT_loadf rfl rfl) | (apply g_fld; exact WT_fieldf rfl rfl rfl) | (apply g_bin; exact WT_geq rfl rfl)); exact rfl) | refine WP_block ?_ | refine WP_skip ?_ | refine WP_cond_f rfl ?_ | (refine WPL_case rfl rfl (fun hb => ?_) (fun hb => ?_) <;> (repeat (first | replace hb := dec_t hb | replace hb := dec_f hb)) <;> (try (exfalso; fail))) | (refine WP_cond rfl (fun hb => ?_) (fun hb => ?_) <;> (repeat (first | replace hb := dec_t hb | replace hb := dec_f hb)) <;> (try (exfalso; omega)))))
     all_goals (try (exfalso; first | contradiction | omega))
     all_goals (refine WP_loop (fun i : Nat => ([(1, exI .i64 (j : Int)), (2, fp [exI .i64 x.kind, exT x.name, exI .i64 x.n, exI .i64 x.d, isl (eEx k) x.l]), (5, exI .i64 (i : Int))], [])) (fun i => i ≤ x.l.length ∧ (x.l.take i).any (Ex.later j) = false) (fun i => x.l.length - i) 0 ?_ ⟨Nat.zero_le _, rfl⟩ fun i hi => ?_)
     all_goals (try exact Leads_env (by repeat (first | exact sub_nil | refine sub_cons rfl ?_)) (List.Sublist.refl _))
     all_goals (obtain ⟨hi, hpre⟩ := hi; by_cases hlt : i < x.l.length)
     all_goals (first | (have hcall := ih x.l[i]) | skip)
     all_goals (first | (cases hv : x.l[i].later j) | (rw [show i = x.l.length by omega, List.take_length] at hpre))
     all_goals (try rw [hv] at hcall)
     all_goals (first | (have hok := any_take_no hlt hpre hv) | (rw [any_yes hlt hv]) | (rw [hpre]))
     all_goals (clear hpre)
     all_goals ((repeat' (first | refine WP_seq ?_ | refine WP_region ?_ | refine WPL_nil ?_ | (apply WPL_t; (first | exact WT_move rfl | exact WT_assign rfl | (apply g_load; first | exact WT_loadf rfl rfl | exact WT_loadfa rfl rfl) | (apply g_fld; exact WT_fieldf rfl rfl rfl) | (apply g_bin; first | exact WT_lss rfl rfl | exact WT_add rfl rfl) | (apply g_index; exact WT_index rfl rfl rfl) | (apply g_call; exact WT_len rfl rfl)); exact rfl) | refine WP_block ?_ | refine WP_skip ?_ | refine WP_ret ?_ | refine WP_exit ?_ | refine WP_cond_t rfl ?_ | refine WP_cond_f rfl ?_ | (apply WPL_op0; exact rfl; (apply g_callf; (refine WO_call Tryz.func21 rfl hcall rfl ?_; rintro _ _ ⟨rfl, rfl⟩))) | (refine WP_cond rfl (fun hb => ?_) (fun hb => ?_) <;> (repeat (first | replace hb := dec_t hb | replace hb := dec_f hb)) <;> (try (exfalso; omega))))))
     all_goals (try (exfalso; first | contradiction | omega))
     all_goals (first | exact ⟨.inr rfl, ret1 rfl (.tmp rfl) (List.nil_sublist _) ⟨rfl, rfl⟩⟩ | exact ⟨i + 1, ⟨by omega, hok⟩, by omega, Leads_env (by repeat (first | exact sub_nil | refine sub_cons rfl ?_)) (List.Sublist.refl _)⟩)
set_option maxHeartbeats 1000000 in
set_option maxRecDepth 100000 in
theorem expanded15_any (kk : Nat) (r : RulesD) {rk : Nat → Nat} {F : Nat → List KeyD} (hk : Hk r.ties) (hr : Ranked r.ties rk) (hF : Full r.ties F) (hl : ∀ t ∈ r.ties, t.keys.length ≤ 40 ∧ ∀ k ∈ t.keys, k.kind = 5 → 0 ≤ k.n) (hsh : ∀ i, i < r.ties.length → (F i).length ≤ 32) (_ : r.ties.length ≤ 20) : ∀ i, i < r.ties.length → FnC Tryz.prog 22 [rul kk r, exI .i64 (i : Int)] [] (fun p loc => p = isl eKey (F i) ∧ loc = []) := by
 refine rank_ind hk hr fun i hi ih => ?_
 rw [hF i hi]
 rw [keysAt_get hi] at ih ⊢
 have hlk := (hk i hi).2
 rw [keysAt_get hi] at hlk
 obtain ⟨hl1, hl2⟩ := hl _ (List.getElem_mem hi)
 generalize hkk : r.ties[i].keys = ks at ih hlk hl1 hl2 ⊢
 unfold rul at *
 refine FnC_enter Tryz.func22 rfl Tryz.ntmps22 rfl fun w0 F0 out => ?_
 (repeat' (first | (apply at_region 1; refine Stop.out ?_) | refine WP_seq ?_ | refine WP_region ?_ | refine WPL_nil ?_ | (apply WPL_t; (exact WT_assign rfl); exact rfl) | (apply WPL_op0; exact rfl; (apply g_box; refine WO_box rfl ?_; intro _))))
 refine ⟨WP_leads (Leads_fp (k := 0) (t := 2) rfl rfl) ?_⟩
 (repeat' (first | (apply cuts_at 3; refine Stop.out ?_) | refine WP_seq ?_ | refine WP_region ?_ | refine WPL_nil ?_ | (apply WPL_t; (first | exact WT_move rfl | exact WT_assign rfl | (apply g_load; exact WT_loadf rfl rfl) | (apply g_fld; exact WT_fieldf rfl rfl rfl) | (apply g_index; exact WT_index rfl rfl rfl)); exact rfl)))
 rw [hkk]
 refine ⟨?_⟩
 (repeat' (first | refine WP_seq ?_ | refine WP_region ?_ | refine WPL_nil ?_ | (apply WPL_t; (first | exact WT_assign rfl); exact rfl) | refine WP_block ?_))
 have hW : ∀ q, ((ks.take q).flatMap (exd F)).length ≤ 33 * 40 := fun q => by
   have h1 : ∀ l : List KeyD, (∀ k ∈ l, (exd F k).length ≤ 33) → (l.flatMap (exd F)).length ≤ 33 * l.length := fun l h => by
     induction l with
     | nil => simp
     | cons a l ih2 =>
       have h2 := h a List.mem_cons_self
       have h3 := ih2 fun k hk => h k (List.mem_cons_of_mem _ hk)
       rw [List.flatMap_cons, List.length_append, List.length_cons]; omega
   have h2 := h1 (ks.take q) fun k hkq => by
     unfold exd
     split
     · rename_i h5
       have := hsh _ (hlk k (List.mem_of_mem_take hkq) h5)
       omega
     · simp
   have h3 : (ks.take q).length ≤ 40 := by rw [List.length_take]; omega
   omega
 refine WP_loop (fun s : Nat × Value => ([(2, fp (rulesV kk r)), (5, ex s.2), (6, isl eKey ks), (7, exI .i64 (s.1 : Int))], [vec s.2 42 3 ((ks.take s.1).flatMap (exd F)).length (((ks.take s.1).flatMap (exd F)).flatMap keyV)])) (fun s => s.1 ≤ ks.length) (fun s => ks.length - s.1) (0, .slice none 0 0) ?_ (Nat.zero_le _) fun s hs => ?_
 · refine Leads_nilv 42 3 ?_
   exact Leads_env (by repeat (first | exact sub_nil | refine sub_cons rfl ?_)) (List.Sublist.refl _)
 obtain ⟨q, v⟩ := s
 simp only at hs ⊢
 by_cases hlq : q < ks.length
 · have hWq := hW q
   have hstep : (ks.take (q + 1)).flatMap (exd F) = (ks.take q).flatMap (exd F) ++ exd F ks[q] := by
     rw [List.take_succ_eq_append_getElem hlq, List.flatMap_append]; simp only [List.flatMap_cons, List.flatMap_nil, List.append_nil]
   generalize (ks.take q).flatMap (exd F) = W at *
   unfold exd at hstep
   by_cases h5 : ks[q].kind = 5
   · have hb := hl2 _ (List.getElem_mem hlq) h5
     have hlk2 := hlk _ (List.getElem_mem hlq) h5
     have hcall := ih _ (List.getElem_mem hlq) h5
     have hsh2 := hsh _ hlk2
     rw [Int.toNat_of_nonneg hb] at hcall
     rw [if_pos h5] at hstep
     have hstep : (ks.take (q + 1)).flatMap (exd F) = W ++ F ks[q].n.toNat := hstep
     (repeat' (first | (apply at_region 7; refine Stop.out ?_) | refine WP_seq ?_ | refine WP_region ?_ | refine WPL_nil ?_ | (apply WPL_t; (first | exact WT_move rfl | (apply g_load; exact WT_loadf rfl rfl) | (apply g_fld; exact WT_fieldf rfl rfl rfl) | (apply g_bin; first | exact WT_lss rfl rfl | exact WT_eql rfl rfl) | (apply g_index; exact WT_index rfl rfl rfl) | (apply g_call; exact WT_len rfl rfl)); exact rfl) | refine WP_block ?_ | refine WP_skip ?_ | (refine WP_cond rfl (fun hb => ?_) (fun hb => ?_) <;> (repeat (first | replace hb := dec_t hb | replace hb := dec_f hb)) <;> (try (exfalso; first | contradiction | omega)))))
     all_goals (try (exfalso; first | contradiction | omega))
     refine ⟨?_⟩
     (refine WP_draw [] 10 rfl ?_)
     all_goals ((apply WPY_pure 0 rfl (by decide +kernel) rfl (by repeat (first | exact np_ret)) guard_none; (first | exact WT_move rfl); exact rfl))
     all_goals ((apply WPY_take 1 rfl (by decide +kernel) rfl (by decide +kernel) (by repeat (first | exact np_ret)) guard_none; (first | (apply g_load; first | exact WT_loadfa rfl rfl)); exact rfl))
     all_goals ((apply WPY_pure 2 rfl (by decide +kernel) rfl (by repeat (first | exact np_ret)) guard_none; (first | exact WT_move rfl); exact rfl))
     all_goals ((apply WPY_pure 3 rfl (by decide +kernel) rfl (by repeat (first | exact np_ret)) guard_none; (first | exact WT_move rfl); exact rfl))
     all_goals ((apply WPY_pure 4 rfl (by decide +kernel) rfl (by repeat (first | exact np_ret)) guard_none; (first | (apply g_index; first | exact WT_index rfl rfl rfl)); exact rfl))
     all_goals ((apply WPY_pure 5 rfl (by decide +kernel) rfl (by repeat (first | exact np_ret)) guard_none; (first | (apply g_fld; first | exact WT_fieldf rfl rfl rfl)); exact rfl))
     all_goals ((apply WPY_take 6 rfl (by decide +kernel) rfl (by decide +kernel) (by repeat (first | exact np_ret)) guard_none; (first | (apply g_load; first | exact WT_loadf rfl rfl)); exact rfl))
     all_goals ((apply WPY_one 7; exact (by decide +kernel); exact rfl; exact guard_none; exact (fun _ _ h => h); (apply g_callf; (refine WO_call Tryz.func22 rfl hcall rfl ?_; rintro _ _ ⟨rfl, rfl⟩))))
     all_goals ((apply WPY_one 8; exact (by decide +kernel); exact rfl; exact guard_none; exact (fun _ _ h => h); (apply g_append; ((refine WO_append (k := 0) (l0 := []) rfl rfl (by exact Src_isl rfl) rfl ?_)); intro _)))
     all_goals ((apply WPY_pure 9 rfl (by decide +kernel) rfl (by repeat (first | exact np_ret)) guard_none; (first | exact WT_assign rfl); exact rfl))
     all_goals (refine WPY_done (by decide +kernel) ?_)
     all_goals ((repeat' (first | refine WP_region ?_ | refine WPL_nil ?_ | (apply WPL_t; (first | exact WT_move rfl | exact WT_assign rfl | (apply g_bin; exact WT_add rfl rfl)); exact rfl))))
     all_goals (try (exfalso; first | contradiction | omega))
     rename_i v2
     refine ⟨(q + 1, v2), by show q + 1 ≤ _; omega, by show ks.length - (q + 1) < ks.length - q; omega, ?_⟩
     simp only [hstep, List.length_append, List.flatMap_append]
     exact Leads_env (by repeat (first | exact sub_nil | refine sub_cons rfl ?_)) (List.Sublist.refl _)
   · rw [if_neg h5] at hstep
     have hstep : (ks.take (q + 1)).flatMap (exd F) = W ++ [ks[q]] := hstep
     (repeat' (first | (apply WPL_op0; exact rfl; apply g_append; refine WO_append (k := 1) (l0 := []) rfl rfl (by exact Src_row (k := 0) (qs := keyV ks[q]) rfl rfl rfl) rfl ?_; intro _) | refine WP_seq ?_ | refine WP_region ?_ | refine WPL_nil ?_ | (apply WPL_t; (first | exact WT_move rfl | exact WT_assign rfl | (apply g_load; first | exact WT_loadf rfl rfl | exact WT_loadfa rfl rfl) | (apply g_fld; exact WT_fieldf rfl rfl rfl) | (apply g_bin; first | exact WT_lss rfl rfl | exact WT_eql rfl rfl | exact WT_add rfl rfl) | (apply g_index; exact WT_index rfl rfl rfl) | (apply g_call; exact WT_len rfl rfl)); exact rfl) | refine WP_block ?_ | refine WP_skip ?_ | (apply WPL_op0; exact rfl; (apply g_bslice; (refine WO_bslice1 rfl rfl ?_); intro _)) | (refine WP_cond rfl (fun hb => ?_) (fun hb => ?_) <;> (repeat (first | replace hb := dec_t hb | replace hb := dec_f hb)) <;> (try (exfalso; first | contradiction | omega)))))
     all_goals (try (exfalso; first | contradiction | omega))
     rename_i v2
     refine ⟨(q + 1, v2), by show q + 1 ≤ _; omega, by show ks.length - (q + 1) < ks.length - q; omega, ?_⟩
     simp only [hstep, List.length_append, List.flatMap_append, List.length_cons, List.length_nil, List.flatMap_cons, List.flatMap_nil, List.append_nil]
     exact Leads_env (by repeat (first | exact sub_nil | refine sub_cons rfl ?_)) (.cons _ (.refl _))
 · have hWq := hW ks.length
   rw [show q = ks.length by omega]
   rw [List.take_length] at hWq ⊢
   (repeat' (first | (apply at_region 9; refine Stop.out ?_) | refine WP_seq ?_ | refine WP_region ?_ | refine WPL_nil ?_ | (apply WPL_t; (first | exact WT_move rfl | (apply g_bin; exact WT_lss rfl rfl) | (apply g_call; exact WT_len rfl rfl)); exact rfl) | refine WP_exit ?_ | (refine WP_cond rfl (fun hb => ?_) (fun hb => ?_) <;> (repeat (first | replace hb := dec_t hb | replace hb := dec_f hb)) <;> (try (exfalso; omega)))))
   all_goals (try (exfalso; omega))
   refine ⟨WP_leads (Leads_fvec (k := 0) (t := 5) (E := eKey) (ks.flatMap (exd F)) rfl rfl rfl rfl (hby := by show _ * 32 ≤ _; omega)) ?_⟩
   (repeat' (first | refine WP_region ?_ | refine WPL_nil ?_ | (apply WPL_t; (first | exact WT_move rfl | exact WT_assign rfl); exact rfl) | refine WP_ret ?_))
   exact ⟨.inr rfl, ret1 rfl (.tmp rfl) (List.nil_sublist _) ⟨rfl, rfl⟩⟩
end Go.Proofs.YthldagplhklbnaaGreatDoor
namespace Go.Fr
open Go.RowKit Go.Kx
theorem roundsBad_drop {L : List (List KeyD)} {l : List RoundD} {j : Nat} (h : j < l.length) : RulesD.roundsBad L j (l.drop j) = (RulesD.roundBad L j l[j] || RulesD.roundsBad L (j + 1) (l.drop (j + 1))) := by
 rw [List.drop_eq_getElem_cons h, RulesD.roundsBad]
theorem keyF_len {ties : List TieD} {F : Nat → List KeyD} {i : Nat} (h : i < ties.length) : ((List.range ties.length).map F).getD i [] = F i := by
 rw [List.getD_eq_getElem?_getD, List.getElem?_map, List.getElem?_range h]; rfl
end Go.Fr
namespace Go.Proofs.YthldagplhklbnaaGreatDoor
open Go Go.RowKit Go.Kx Go.Fr
set_option maxHeartbeats 4000000 in
set_option maxRecDepth 100000 in
theorem rcheck15_any (kk : Nat) (r : RulesD) (hf : r.few = true) : FnC Tryz.prog 9 [rul kk r] [] (fun p loc => p = exI .i64 (r.check15 freeF).2 ∧ loc = []) := by
 have hnch := r14check_any kk r hf
 obtain ⟨-, -, -, hf4, hf5, -, -, hf8, -⟩ := few_facts hf
 have hfrm := formed15_any kk r hf8
 by_cases h1 : r.check freeF = 0
 · rw [h1] at hnch
   have hs := RulesD.sound_of h1
   have hlin := hs.linked
   have htie := hs.tieNo
   have hcir := circular15_any kk r hf4 fun t ht => (hlin t ht).2
   have hman := many15_any kk r hf4 fun t ht => (hlin t ht).2
   cases hfi : r.fine
   · have hres : (r.check15 freeF).2 = 150 := by
       unfold RulesD.check15
       rw [if_neg (by simp [h1]), hfi]; rfl
     rw [hres]
     rw [hfi] at hfrm
     unfold rul at *
     refine FnC_enter Tryz.func9 rfl Tryz.ntmps9 rfl fun w0 F0 out => ?_
     (repeat' (first | (apply at_region 1; refine Stop.out ?_) | refine WP_seq ?_ | refine WP_region ?_ | refine WPL_nil ?_ | (apply WPL_t; (exact WT_assign rfl); exact rfl) | (apply WPL_op0; exact rfl; (apply g_box; refine WO_box rfl ?_; intro _))))
     refine ⟨WP_leads (Leads_fp (k := 0) (t := 1) rfl rfl) ?_⟩
     (repeat' (first | refine WP_seq ?_ | refine WP_region ?_ | refine WPL_nil ?_ | (apply WPL_t; (first | exact WT_move rfl | exact WT_assign rfl | (apply g_load; exact WT_loadfa rfl rfl) | (apply g_bin; exact WT_neq rfl rfl) | (apply g_un; exact WT_not rfl)); exact rfl) | refine WP_skip ?_ | refine WP_ret ?_ | refine WP_cond_t rfl ?_ | refine WP_cond_f rfl ?_ | (apply WPL_op0; exact rfl; (apply g_callf; first | (refine WO_call Tryz.func14 rfl hnch rfl ?_; rintro _ _ ⟨rfl, rfl⟩) | (refine WO_call Tryz.func15 rfl hfrm rfl ?_; rintro _ _ ⟨rfl, rfl⟩)))))
     all_goals (try (exfalso; first | contradiction | omega))
     exact ⟨.inr rfl, ret1 rfl (.tmp rfl) (List.nil_sublist _) ⟨rfl, rfl⟩⟩
   have hk := RulesD.hk_of hs hfi
   rw [hfi] at hfrm
   have hcl := circF_len r.ties r.ties.length
   have hres : (r.check15 freeF).2 = if (expansionF r.ties).2 ≠ 0 then (expansionF r.ties).2 else if RulesD.roundsBad (expansionF r.ties).1 0 r.rounds then 151 else 0 := by
     unfold RulesD.check15
     rw [if_neg (by simp [h1]), hfi]
     simp only [Bool.not_true, Bool.false_eq_true, if_false]
     split
     · rfl
     · split <;> rfl
   rw [hres]
   unfold rul at hnch hfrm hcir hman ⊢
   refine FnC_says (i := 0) rfl (Says_agg (i := 5) (p := isl (eRound kk) r.rounds) rfl Says_isl) fun hry => ?_
   obtain ⟨hry, -⟩ := hry
   simp only [maxLen] at hry
   clear hf8 hres hs h1 hfi
   refine FnC_enter Tryz.func9 rfl Tryz.ntmps9 rfl fun w0 F0 out => ?_
   (repeat' (first | (apply at_region 1; refine Stop.out ?_) | refine WP_seq ?_ | refine WP_region ?_ | refine WPL_nil ?_ | (apply WPL_t; (exact WT_assign rfl); exact rfl) | (apply WPL_op0; exact rfl; (apply g_box; refine WO_box rfl ?_; intro _))))
   refine ⟨WP_leads (Leads_fp (k := 0) (t := 1) rfl rfl) ?_⟩
   (repeat' (first | refine WP_seq ?_ | refine WP_region ?_ | refine WPL_nil ?_ | (apply WPL_t; (first | exact WT_move rfl | exact WT_assign rfl | (apply g_load; exact WT_loadfa rfl rfl) | (apply g_bin; exact WT_neq rfl rfl) | (apply g_un; exact WT_not rfl)); exact rfl) | refine WP_block ?_ | refine WP_skip ?_ | refine WP_cond_f rfl ?_ | (apply WPL_op0; exact rfl; (apply g_callf; first | (refine WO_call Tryz.func14 rfl hnch rfl ?_; rintro _ _ ⟨rfl, rfl⟩) | (refine WO_call Tryz.func15 rfl hfrm rfl ?_; rintro _ _ ⟨rfl, rfl⟩) | (refine WO_call Tryz.func19 rfl hcir rfl ?_; rintro _ _ ⟨rfl, rfl⟩)))))
   all_goals (try (exfalso; first | contradiction | omega))
   refine WP_loop (fun i : Nat => ([(1, fp (rulesV kk r)), (4, isl eBool (circF r.ties r.ties.length)), (5, exI .i64 (i : Int))], [])) (fun i => i ≤ r.ties.length ∧ ∀ b ∈ (circF r.ties r.ties.length).take i, b = false) (fun i => r.ties.length - i) 0 ?_ ⟨Nat.zero_le _, fun b hb => by cases hb⟩ fun i hi => ?_
   · exact Leads_env (by repeat (first | exact sub_nil | refine sub_cons rfl ?_)) (List.Sublist.refl _)
   obtain ⟨hi, hpre⟩ := hi
   by_cases hlt : i < r.ties.length
   · have hlt2 : i < (circF r.ties r.ties.length).length := by omega
     cases hv : (circF r.ties r.ties.length)[i]
     · have hok : ∀ b ∈ (circF r.ties r.ties.length).take (i + 1), b = false := fun b hb => by
         rw [List.take_succ_eq_append_getElem hlt2] at hb
         rcases List.mem_append.1 hb with h | h
         · exact hpre b h
         · rw [List.mem_singleton.1 h]; exact hv
       clear hpre
       (repeat' (first | refine WP_seq ?_ | refine WP_region ?_ | refine WPL_nil ?_ | (apply WPL_t; (first | exact WT_move rfl | exact WT_assign rfl | (apply g_load; exact WT_loadf rfl rfl) | (apply g_bin; first | exact WT_lss rfl rfl | exact WT_add rfl rfl) | (apply g_index; exact WT_index rfl rfl rfl) | (apply g_call; exact WT_len rfl rfl)); exact rfl) | refine WP_block ?_ | refine WP_skip ?_ | refine WP_ret ?_ | (refine WP_cond rfl (fun hb => ?_) (fun hb => ?_) <;> (repeat (first | replace hb := dec_t hb | replace hb := dec_f hb)) <;> (try (exfalso; omega)))))
       all_goals (try (exfalso; first | contradiction | omega | (simp_all; done)))
       all_goals exact ⟨i + 1, ⟨by omega, hok⟩, by omega, Leads_env (by repeat (first | exact sub_nil | refine sub_cons rfl ?_)) (List.Sublist.refl _)⟩
     · have hna : ¬ Acyc r.ties := fun h => by
         have := circF_off hk h _ (List.getElem_mem hlt2)
         rw [hv] at this; cases this
       rw [expansionF_circle hk hna]
       clear hpre
       (repeat' (first | refine WP_seq ?_ | refine WP_region ?_ | refine WPL_nil ?_ | (apply WPL_t; (first | exact WT_move rfl | exact WT_assign rfl | (apply g_load; exact WT_loadf rfl rfl) | (apply g_bin; first | exact WT_lss rfl rfl | exact WT_add rfl rfl) | (apply g_index; exact WT_index rfl rfl rfl) | (apply g_call; exact WT_len rfl rfl)); exact rfl) | refine WP_block ?_ | refine WP_skip ?_ | refine WP_ret ?_ | (refine WP_cond rfl (fun hb => ?_) (fun hb => ?_) <;> (repeat (first | replace hb := dec_t hb | replace hb := dec_f hb)) <;> (try (exfalso; omega)))))
       all_goals (try (exfalso; first | contradiction | omega | (simp_all; done)))
       all_goals exact ⟨.inr rfl, ret1 rfl (.tmp rfl) (List.nil_sublist _) ⟨rfl, rfl⟩⟩
   rw [show i = (circF r.ties r.ties.length).length by omega, List.take_length] at hpre
   obtain ⟨rk, hr⟩ := circF_acyc hk hpre
   obtain ⟨F, hF⟩ := full_ex hk hr
   obtain ⟨ha1, ha2⟩ := expansionF_acyc hk hr hF
   rw [manyF_full hk hr hF] at hman
   have hlM : (((List.range r.ties.length).map fun i => min (F i).length 33).map fun n : Nat => (n : Int)).length = r.ties.length := by simp
   have hgM : ∀ (i : Nat) (h : i < (((List.range r.ties.length).map fun i => min (F i).length 33).map fun n : Nat => (n : Int)).length), (((List.range r.ties.length).map fun i => min (F i).length 33).map fun n : Nat => (n : Int))[i] = ((min (F i).length 33 : Nat) : Int) := fun i h => by simp
   generalize ((List.range r.ties.length).map fun i => min (F i).length 33).map (fun n : Nat => (n : Int)) = M at hman hlM hgM
   have hex := expanded15_any kk r hk hr hF fun t ht => ⟨by have := (hlin t ht).1; omega, fun k hkm h5 => ((hlin t ht).2 k hkm h5).1⟩
   clear hpre hcir hlin
   (repeat' (first | refine WP_seq ?_ | refine WP_region ?_ | refine WPL_nil ?_ | (apply WPL_t; (first | exact WT_move rfl | exact WT_assign rfl | (apply g_load; exact WT_loadfa rfl rfl) | (apply g_bin; exact WT_lss rfl rfl) | (apply g_call; exact WT_len rfl rfl)); exact rfl) | refine WP_block ?_ | refine WP_exit ?_ | (apply WPL_op0; exact rfl; (apply g_callf; (refine WO_call Tryz.func20 rfl hman rfl ?_; rintro _ _ ⟨rfl, rfl⟩))) | (refine WP_cond rfl (fun hb => ?_) (fun hb => ?_) <;> (repeat (first | replace hb := dec_t hb | replace hb := dec_f hb)) <;> (try (exfalso; omega)))))
   all_goals (try (exfalso; first | contradiction | omega))
   refine WP_loop (fun i : Nat => ([(1, fp (rulesV kk r)), (6, isl eI M), (7, exI .i64 (i : Int))], [])) (fun i => i ≤ r.ties.length ∧ ∀ j, j < i → (F j).length ≤ 32) (fun i => r.ties.length - i) 0 ?_ ⟨Nat.zero_le _, fun j hj => by omega⟩ fun i hi => ?_
   · exact Leads_env (by repeat (first | exact sub_nil | refine sub_cons rfl ?_)) (List.Sublist.refl _)
   obtain ⟨hi, hpre⟩ := hi
   by_cases hlt : i < r.ties.length
   · have hg := hgM i (by omega)
     by_cases hlg : 32 < (F i).length
     · rw [ha1 ⟨i, hlt, hlg⟩]
       clear hpre
       (repeat' (first | refine WP_seq ?_ | refine WP_region ?_ | refine WPL_nil ?_ | (apply WPL_t; (first | exact WT_move rfl | exact WT_assign rfl | (apply g_load; exact WT_loadf rfl rfl) | (apply g_bin; first | exact WT_lss rfl rfl | exact WT_gtr rfl rfl) | (apply g_index; exact WT_index rfl rfl rfl) | (apply g_call; exact WT_len rfl rfl)); exact rfl) | refine WP_block ?_ | refine WP_skip ?_ | refine WP_ret ?_ | (refine WP_cond rfl (fun hb => ?_) (fun hb => ?_) <;> (repeat (first | replace hb := dec_t hb | replace hb := dec_f hb)) <;> (try (exfalso; omega)))))
       all_goals (try (exfalso; first | contradiction | omega))
       all_goals exact ⟨.inr rfl, ret1 rfl (.tmp rfl) (List.nil_sublist _) ⟨rfl, rfl⟩⟩
     · have hok : ∀ j, j < i + 1 → (F j).length ≤ 32 := fun j hj => by
         by_cases hji : j = i
         · subst hji; omega
         · exact hpre j (by omega)
       clear hpre
       (repeat' (first | refine WP_seq ?_ | refine WP_region ?_ | refine WPL_nil ?_ | (apply WPL_t; (first | exact WT_move rfl | exact WT_assign rfl | (apply g_load; exact WT_loadf rfl rfl) | (apply g_bin; first | exact WT_lss rfl rfl | exact WT_gtr rfl rfl | exact WT_add rfl rfl) | (apply g_index; exact WT_index rfl rfl rfl) | (apply g_call; exact WT_len rfl rfl)); exact rfl) | refine WP_block ?_ | refine WP_skip ?_ | (refine WP_cond rfl (fun hb => ?_) (fun hb => ?_) <;> (repeat (first | replace hb := dec_t hb | replace hb := dec_f hb)) <;> (try (exfalso; omega)))))
       all_goals (try (exfalso; first | contradiction | omega))
       all_goals exact ⟨i + 1, ⟨by omega, hok⟩, by omega, Leads_env (by repeat (first | exact sub_nil | refine sub_cons rfl ?_)) (List.Sublist.refl _)⟩
   have hsh : ∀ i, i < r.ties.length → (F i).length ≤ 32 := fun j hj => hpre j (by omega)
   rw [ha2 hsh]
   have hex := hex hsh hf4
   have hgF : ∀ i, i < r.ties.length → ((List.range r.ties.length).map F).getD i [] = F i := fun i h => keyF_len h
   generalize (List.range r.ties.length).map F = L at hgF
   clear hpre ha1 ha2 hman hgM
   simp only [ne_eq, not_true_eq_false, if_false]
   (repeat' (first | refine WP_seq ?_ | refine WP_region ?_ | refine WPL_nil ?_ | (apply WPL_t; (first | exact WT_move rfl | exact WT_assign rfl | (apply g_bin; exact WT_lss rfl rfl) | (apply g_call; exact WT_len rfl rfl)); exact rfl) | refine WP_block ?_ | refine WP_exit ?_ | (refine WP_cond rfl (fun hb => ?_) (fun hb => ?_) <;> (repeat (first | replace hb := dec_t hb | replace hb := dec_f hb)) <;> (try (exfalso; omega)))))
   all_goals (try (exfalso; first | contradiction | omega))
   refine WP_loop (fun j : Nat => ([(1, fp (rulesV kk r)), (8, exI .i64 (j : Int))], [])) (fun j => j ≤ r.rounds.length ∧ RulesD.roundsBad L 0 r.rounds = RulesD.roundsBad L j (r.rounds.drop j)) (fun j => r.rounds.length - j) 0 ?_ ⟨Nat.zero_le _, rfl⟩ fun j hj => ?_
   · exact Leads_env (by repeat (first | exact sub_nil | refine sub_cons rfl ?_)) (List.Sublist.refl _)
   obtain ⟨hj, hrb⟩ := hj
   by_cases hlj : j < r.rounds.length
   · rw [roundsBad_drop hlj] at hrb
     have hlat := later15_any j kk r.rounds[j].score
     unfold RulesD.roundBad at hrb
     rw [← Ex.later_pre] at hrb
     obtain ⟨ht1, ht2⟩ := htie _ (List.getElem_mem hlj)
     cases hv : r.rounds[j].score.later j
     · rw [hv, Bool.false_or] at hrb
       rw [hv] at hlat
       by_cases h0 : 0 ≤ r.rounds[j].tieNo
       · rw [decide_eq_true h0, Bool.true_and, hgF _ (by omega)] at hrb
         have hexd := hex r.rounds[j].tieNo.toNat (by omega)
         rw [Int.toNat_of_nonneg h0] at hexd
         have hK := hsh r.rounds[j].tieNo.toNat (by omega)
         generalize F r.rounds[j].tieNo.toNat = K at hrb hexd hK
         (repeat' (first | (apply cut_at 24; refine Stop.out ?_) | refine WP_seq ?_ | refine WP_region ?_ | refine WPL_nil ?_ | (apply WPL_t; (first | exact WT_move rfl | (apply g_load; first | exact WT_loadf rfl rfl | exact WT_loadfa rfl rfl) | (apply g_fld; exact WT_fieldf rfl rfl rfl) | (apply g_bin; exact WT_lss rfl rfl) | (apply g_index; exact WT_index rfl rfl rfl) | (apply g_call; exact WT_len rfl rfl)); exact rfl) | refine WP_block ?_ | refine WP_skip ?_ | refine WP_cond_f rfl ?_ | (apply WPL_op0; exact rfl; (apply g_callf; (refine WO_call Tryz.func21 rfl hlat rfl ?_; rintro _ _ ⟨rfl, rfl⟩))) | (refine WP_cond rfl (fun hb => ?_) (fun hb => ?_) <;> (repeat (first | replace hb := dec_t hb | replace hb := dec_f hb)) <;> (try (exfalso; omega)))))
         all_goals (try (exfalso; first | contradiction | omega))
         refine ⟨?_⟩
         refine WP_cutR 24 (fun _ : Unit => ([(1, fp (rulesV kk r)), (8, exI .i64 (j : Int)), (9, isl eKey K)], [])) (fun _ => True) ?_ fun _ _ => ?_
         · skip
           (refine WP_drawl 9 rfl ?_)
           all_goals ((apply WPY_take 0 rfl (by decide +kernel) rfl (by decide +kernel) (by repeat (exact np_ret)) guard_none; ((apply g_load; exact WT_loadfa rfl rfl)); exact rfl))
           all_goals ((apply WPY_pure 1 rfl (by decide +kernel) rfl (by repeat (first | exact np_ret)) guard_none; (first | (apply g_fld; first | exact WT_fieldf rfl rfl rfl)); exact rfl))
           all_goals ((apply WPY_take 2 rfl (by decide +kernel) rfl (by decide +kernel) (by repeat (exact np_ret)) guard_none; ((apply g_load; exact WT_loadf rfl rfl)); exact rfl))
           all_goals ((apply WPY_pure 3 rfl (by decide +kernel) rfl (by repeat (first | exact np_ret)) guard_none; (first | exact WT_move rfl); exact rfl))
           all_goals ((apply WPY_pure 4 rfl (by decide +kernel) rfl (by repeat (first | exact np_ret)) guard_none; (first | (apply g_index; first | exact WT_index rfl rfl rfl)); exact rfl))
           all_goals ((apply WPY_pure 5 rfl (by decide +kernel) rfl (by repeat (first | exact np_ret)) guard_none; (first | (apply g_fld; first | exact WT_fieldf rfl rfl rfl)); exact rfl))
           all_goals ((apply WPY_take 6 rfl (by decide +kernel) rfl (by decide +kernel) (by repeat (exact np_ret)) guard_none; ((apply g_load; exact WT_loadf rfl rfl)); exact rfl))
           all_goals ((apply WPY_one 7; exact (by decide +kernel); exact rfl; exact guard_none; exact (fun _ _ h => h); (apply g_callf; (refine WO_call Tryz.func22 rfl hexd rfl ?_; rintro _ _ ⟨rfl, rfl⟩))))
           all_goals ((apply WPY_pure 8 rfl (by decide +kernel) rfl (by repeat (first | exact np_ret)) guard_none; (first | exact WT_assign rfl); exact rfl))
           all_goals (refine WPY_done (by decide +kernel) ?_)
           all_goals exact cut_here () trivial (Leads_env (by repeat (first | exact sub_nil | refine sub_cons rfl ?_)) (List.Sublist.refl _))
         (repeat' (first | refine WP_seq ?_ | refine WP_region ?_ | refine WPL_nil ?_ | (apply WPL_t; (first | exact WT_assign rfl); exact rfl) | refine WP_block ?_))
         refine WP_loop (fun q : Nat => ([(1, fp (rulesV kk r)), (8, exI .i64 (j : Int)), (9, isl eKey K), (10, exI .i64 (q : Int))], [])) (fun q => q ≤ K.length ∧ (K.take q).all (RulesD.earlyK j) = true) (fun q => K.length - q) 0 ?_ ⟨Nat.zero_le _, rfl⟩ fun q hq => ?_
         · exact Leads_env (by repeat (first | exact sub_nil | refine sub_cons rfl ?_)) (List.Sublist.refl _)
         obtain ⟨hq, hpq⟩ := hq
         by_cases hlq : q < K.length
         · by_cases he : K[q].kind = 2 ∧ (j : Int) ≤ K[q].n
           · have hev : RulesD.earlyK j K[q] = false := by
               unfold RulesD.earlyK
               rw [Bool.or_eq_false_iff, decide_eq_false_iff_not, decide_eq_false_iff_not]; omega
             rw [all_not hlq hev, Bool.not_false, Bool.true_or] at hrb
             rw [hrb, if_pos rfl]
             clear hpq hrb
             (repeat' (first | refine WP_seq ?_ | refine WP_region ?_ | refine WPL_nil ?_ | (apply WPL_t; (first | exact WT_move rfl | exact WT_assign rfl | exact WT_pick (b := true) rfl (fun _ => rfl) (fun e => by cases e) | (apply g_load; exact WT_loadf rfl rfl) | (apply g_fld; exact WT_fieldf rfl rfl rfl) | (apply g_bin; first | exact WT_lss rfl rfl | exact WT_eql rfl rfl) | (apply g_index; exact WT_index rfl rfl rfl) | (apply g_call; exact WT_len rfl rfl)); exact rfl) | (apply WPL_gt; exact rfl; exact rfl; exact rfl; (first | exact WT_move rfl | (apply g_load; exact WT_loadf rfl rfl) | (apply g_fld; exact WT_fieldf rfl rfl rfl) | (apply g_bin; exact WT_geq rfl rfl) | (apply g_index; exact WT_index rfl rfl rfl)); exact rfl) | refine WP_block ?_ | refine WP_skip ?_ | refine WP_ret ?_ | (refine WPL_case rfl rfl (fun hb => ?_) (fun hb => ?_) <;> (repeat (first | replace hb := dec_t hb | replace hb := dec_f hb)) <;> (try (exfalso; omega))) | (refine WP_cond rfl (fun hb => ?_) (fun hb => ?_) <;> (repeat (first | replace hb := dec_t hb | replace hb := dec_f hb)) <;> (try (exfalso; omega)))))
             all_goals (try (exfalso; first | contradiction | omega))
             all_goals exact ⟨.inr rfl, ret1 rfl (.tmp rfl) (List.nil_sublist _) ⟨rfl, rfl⟩⟩
           · have hev : RulesD.earlyK j K[q] = true := by
               unfold RulesD.earlyK
               rw [Bool.or_eq_true, decide_eq_true_iff, decide_eq_true_iff]; omega
             have hok := all_take hlq hpq hev
             clear hpq
             (repeat' (first | refine WP_seq ?_ | refine WP_region ?_ | refine WPL_nil ?_ | (apply WPL_t; (first | exact WT_move rfl | exact WT_assign rfl | exact WT_pick (b := true) rfl (fun _ => rfl) (fun e => by cases e) | exact WT_pick (b := false) rfl (fun e => by cases e) (fun _ => rfl) | (apply g_load; exact WT_loadf rfl rfl) | (apply g_fld; exact WT_fieldf rfl rfl rfl) | (apply g_bin; first | exact WT_lss rfl rfl | exact WT_eql rfl rfl | exact WT_add rfl rfl) | (apply g_index; exact WT_index rfl rfl rfl) | (apply g_call; exact WT_len rfl rfl)); exact rfl) | (refine WPL_off rfl rfl rfl rfl rfl ?_) | (apply WPL_gt; exact rfl; exact rfl; exact rfl; (first | exact WT_move rfl | (apply g_load; exact WT_loadf rfl rfl) | (apply g_fld; exact WT_fieldf rfl rfl rfl) | (apply g_bin; exact WT_geq rfl rfl) | (apply g_index; exact WT_index rfl rfl rfl)); exact rfl) | refine WP_block ?_ | refine WP_skip ?_ | refine WP_cond_f rfl ?_ | (refine WPL_case rfl rfl (fun hb => ?_) (fun hb => ?_) <;> (repeat (first | replace hb := dec_t hb | replace hb := dec_f hb)) <;> (try (exfalso; fail))) | (refine WP_cond rfl (fun hb => ?_) (fun hb => ?_) <;> (repeat (first | replace hb := dec_t hb | replace hb := dec_f hb)) <;> (try (exfalso; omega)))))
             all_goals (try (exfalso; first | contradiction | omega))
             all_goals exact ⟨q + 1, ⟨by omega, hok⟩, by omega, Leads_env (by repeat (first | exact sub_nil | refine sub_cons rfl ?_)) (List.Sublist.refl _)⟩
         · rw [show q = K.length by omega, List.take_length] at hpq
           rw [hpq, Bool.not_true, Bool.false_or] at hrb
           (repeat' (first | refine WP_seq ?_ | refine WP_region ?_ | refine WPL_nil ?_ | (apply WPL_t; (first | exact WT_move rfl | exact WT_assign rfl | (apply g_bin; first | exact WT_lss rfl rfl | exact WT_add rfl rfl) | (apply g_call; exact WT_len rfl rfl)); exact rfl) | refine WP_exit ?_ | (refine WP_cond rfl (fun hb => ?_) (fun hb => ?_) <;> (repeat (first | replace hb := dec_t hb | replace hb := dec_f hb)) <;> (try (exfalso; omega)))))
           all_goals (try (exfalso; first | contradiction | omega))
           exact ⟨j + 1, ⟨by omega, hrb⟩, by omega, Leads_env (by repeat (first | exact sub_nil | refine sub_cons rfl ?_)) (List.Sublist.refl _)⟩
       · rw [decide_eq_false h0, Bool.false_and, Bool.false_or] at hrb
         (repeat' (first | refine WP_seq ?_ | refine WP_region ?_ | refine WPL_nil ?_ | (apply WPL_t; (first | exact WT_move rfl | exact WT_assign rfl | (apply g_load; first | exact WT_loadf rfl rfl | exact WT_loadfa rfl rfl) | (apply g_fld; exact WT_fieldf rfl rfl rfl) | (apply g_bin; first | exact WT_lss rfl rfl | exact WT_add rfl rfl) | (apply g_index; exact WT_index rfl rfl rfl) | (apply g_call; exact WT_len rfl rfl)); exact rfl) | refine WP_block ?_ | refine WP_skip ?_ | refine WP_exit ?_ | refine WP_cond_f rfl ?_ | (apply WPL_op0; exact rfl; (apply g_callf; (refine WO_call Tryz.func21 rfl hlat rfl ?_; rintro _ _ ⟨rfl, rfl⟩))) | (refine WP_cond rfl (fun hb => ?_) (fun hb => ?_) <;> (repeat (first | replace hb := dec_t hb | replace hb := dec_f hb)) <;> (try (exfalso; omega)))))
         all_goals (try (exfalso; first | contradiction | omega))
         all_goals exact ⟨j + 1, ⟨by omega, hrb⟩, by omega, Leads_env (by repeat (first | exact sub_nil | refine sub_cons rfl ?_)) (List.Sublist.refl _)⟩
     · rw [hv, Bool.true_or, Bool.true_or] at hrb
       rw [hv] at hlat
       rw [hrb, if_pos rfl]
       clear hrb
       (repeat' (first | refine WP_seq ?_ | refine WP_region ?_ | refine WPL_nil ?_ | (apply WPL_t; (first | exact WT_move rfl | exact WT_assign rfl | (apply g_load; first | exact WT_loadf rfl rfl | exact WT_loadfa rfl rfl) | (apply g_fld; exact WT_fieldf rfl rfl rfl) | (apply g_bin; exact WT_lss rfl rfl) | (apply g_index; exact WT_index rfl rfl rfl) | (apply g_call; exact WT_len rfl rfl)); exact rfl) | refine WP_block ?_ | refine WP_skip ?_ | refine WP_ret ?_ | refine WP_cond_t rfl ?_ | (apply WPL_op0; exact rfl; (apply g_callf; (refine WO_call Tryz.func21 rfl hlat rfl ?_; rintro _ _ ⟨rfl, rfl⟩))) | (refine WP_cond rfl (fun hb => ?_) (fun hb => ?_) <;> (repeat (first | replace hb := dec_t hb | replace hb := dec_f hb)) <;> (try (exfalso; omega)))))
       all_goals (try (exfalso; first | contradiction | omega))
       all_goals exact ⟨.inr rfl, ret1 rfl (.tmp rfl) (List.nil_sublist _) ⟨rfl, rfl⟩⟩
   · rw [List.drop_eq_nil_of_le (by omega), RulesD.roundsBad] at hrb
     rw [hrb, if_neg (by simp)]
     clear hrb
     (repeat' (first | refine WP_seq ?_ | refine WP_region ?_ | refine WPL_nil ?_ | (apply WPL_t; (first | exact WT_move rfl | exact WT_assign rfl | (apply g_load; exact WT_loadf rfl rfl) | (apply g_fld; exact WT_fieldf rfl rfl rfl) | (apply g_bin; exact WT_lss rfl rfl) | (apply g_call; exact WT_len rfl rfl)); exact rfl) | refine WP_ret ?_ | refine WP_exit ?_ | (refine WP_cond rfl (fun hb => ?_) (fun hb => ?_) <;> (repeat (first | replace hb := dec_t hb | replace hb := dec_f hb)) <;> (try (exfalso; omega)))))
     all_goals (try (exfalso; omega))
     exact ⟨.inr rfl, ret1 rfl (.tmp rfl) (List.nil_sublist _) ⟨rfl, rfl⟩⟩
 · have hres : (r.check15 freeF).2 = r.check freeF := by
     unfold RulesD.check15
     rw [if_pos h1]
   rw [hres]
   generalize r.check freeF = e at hnch h1 ⊢
   unfold rul at *
   refine FnC_enter Tryz.func9 rfl Tryz.ntmps9 rfl fun w0 F0 out => ?_
   (repeat' (first | (apply at_region 1; refine Stop.out ?_) | refine WP_seq ?_ | refine WP_region ?_ | refine WPL_nil ?_ | (apply WPL_t; (exact WT_assign rfl); exact rfl) | (apply WPL_op0; exact rfl; (apply g_box; refine WO_box rfl ?_; intro _))))
   refine ⟨WP_leads (Leads_fp (k := 0) (t := 1) rfl rfl) ?_⟩
   (repeat' (first | refine WP_seq ?_ | refine WP_region ?_ | refine WPL_nil ?_ | (apply WPL_t; (first | exact WT_move rfl | exact WT_assign rfl | (apply g_load; exact WT_loadfa rfl rfl) | (apply g_bin; exact WT_neq rfl rfl)); exact rfl) | refine WP_ret ?_ | (apply WPL_op0; exact rfl; (apply g_callf; (refine WO_call Tryz.func14 rfl hnch rfl ?_; rintro _ _ ⟨rfl, rfl⟩))) | (refine WP_cond rfl (fun hb => ?_) (fun hb => ?_) <;> (repeat (first | replace hb := dec_t hb | replace hb := dec_f hb | replace hb := not_t hb | replace hb := not_f hb)) <;> (try (exfalso; contradiction)))))
   all_goals (try (exfalso; first | contradiction | omega))
   exact ⟨.inr rfl, ret1 rfl (.tmp rfl) (List.nil_sublist _) ⟨rfl, rfl⟩⟩
end Go.Proofs.YthldagplhklbnaaGreatDoor
namespace Go.Fr
open Go.RowKit Go.Kx
end Go.Fr
namespace Go.Proofs.YthldagplhklbnaaGreatDoor
open Go Go.RowKit Go.Kx Go.Fr
set_option maxHeartbeats 1000000 in
set_option maxRecDepth 100000 in
theorem rulesSpec_any (kk : Nat) (r : RulesD) : FnC Tryz.prog 3 [rul kk r] [Tab] (fun p loc => p = exB true ∧ loc = []) := by
 have hfw := few15_any kk r
 by_cases hf : r.few15 = true
 · have hf14 := RulesD.few_of15 hf
   have hck := nCheck15_any kk r hf14
   have hrck := rcheck15_any kk r hf14
   rw [hf] at hfw
   generalize (r.check15 freeF).2 = e at hck hrck
   unfold rul at *
   refine FnC_enter Tryz.func3 rfl Tryz.ntmps3 rfl fun w0 F0 out => ?_
   (repeat' (first | (apply at_region 3; refine Stop.out ?_) | refine WP_seq ?_ | refine WP_region ?_ | refine WPL_nil ?_ | (apply WPL_t; (first | exact WT_assign rfl | (apply g_un; exact WT_not rfl)); exact rfl) | refine WP_skip ?_ | refine WP_cond_f rfl ?_ | (apply WPL_op0; exact rfl; first | (apply g_callf; (refine WO_callG (.dup 1 rfl rfl .nil) Tryz.func6 rfl sane15_any rfl ?_ (hH := hH_tab2); rintro _ _ ⟨rfl, rfl⟩)) | (apply g_box; refine WO_box rfl ?_; intro _))))
   refine ⟨WP_leads (Leads_fp (k := 0) (t := 1) rfl rfl) ?_⟩
   (repeat' (first | (apply cut_at 5; refine Stop.out ?_) | refine WP_region ?_ | refine WPL_nil ?_ | (apply WPL_t; (first | (apply g_load; exact WT_loadfa rfl rfl) | (apply g_un; exact WT_not rfl)); exact rfl) | refine WP_skip ?_ | refine WP_cond_f rfl ?_ | (apply WPL_op0; exact rfl; (apply g_callf; (refine WO_call Tryz.func7 rfl hfw rfl ?_; rintro _ _ ⟨rfl, rfl⟩)))))
   all_goals (try (exfalso; omega))
   refine ⟨?_⟩
   refine WP_seq ?_
   (refine WP_drawl 6 rfl ?_)
   all_goals ((apply WPY_take 0 rfl (by decide +kernel) rfl (by decide +kernel) (by repeat (first | exact np_ret)) guard_none; (first | (apply g_load; first | exact WT_loadfa rfl rfl)); exact rfl))
   all_goals ((apply WPY_take 2 rfl (by decide +kernel) rfl (by decide +kernel) (by repeat (first | exact np_ret)) guard_none; (first | (apply g_load; first | exact WT_loadfa rfl rfl)); exact rfl))
   all_goals ((apply WPY_one 1; exact (by decide +kernel); exact rfl; exact guard_none; exact (fun _ _ h => h); (apply g_callf; (refine WO_callG (.dup 0 rfl rfl .nil) Tryz.func8 rfl hck rfl ?_ (hH := hH_tab2); rintro _ _ ⟨rfl, rfl⟩))))
   all_goals ((apply WPY_one 3; exact (by decide +kernel); exact rfl; exact guard_none; exact (fun _ _ h => h); (apply g_callf; (refine WO_call Tryz.func9 rfl hrck rfl ?_; rintro _ _ ⟨rfl, rfl⟩))))
   all_goals ((apply WPY_pure 4 rfl (by decide +kernel) rfl (by repeat (first | exact np_ret)) guard_none; (first | (apply g_bin; first | exact WT_eql rfl rfl)); exact rfl))
   all_goals ((apply WPY_pure 5 rfl (by decide +kernel) rfl (by repeat (first | exact np_ret)) guard_none; (first | exact WT_assign rfl); exact rfl))
   all_goals (refine WPY_done (by decide +kernel) ?_)
   all_goals ((repeat' (first | refine WP_ret ?_)))
   all_goals (refine ⟨.inr rfl, ret1 rfl (.tmp rfl) (List.nil_sublist _) ⟨congrArg exB (decide_eq_true rfl), rfl⟩⟩)
 · have hf' : r.few15 = false := by simpa using hf
   rw [hf'] at hfw
   unfold rul at *
   refine FnC_enter Tryz.func3 rfl Tryz.ntmps3 rfl fun w0 F0 out => ?_
   (repeat' (first | (apply at_region 3; refine Stop.out ?_) | refine WP_seq ?_ | refine WP_region ?_ | refine WPL_nil ?_ | (apply WPL_t; (first | exact WT_assign rfl | (apply g_un; exact WT_not rfl)); exact rfl) | refine WP_skip ?_ | refine WP_cond_f rfl ?_ | (apply WPL_op0; exact rfl; first | (apply g_callf; (refine WO_callG (.dup 1 rfl rfl .nil) Tryz.func6 rfl sane15_any rfl ?_ (hH := hH_tab2); rintro _ _ ⟨rfl, rfl⟩)) | (apply g_box; refine WO_box rfl ?_; intro _))))
   refine ⟨WP_leads (Leads_fp (k := 0) (t := 1) rfl rfl) ?_⟩
   (repeat' (first | refine WP_seq ?_ | refine WP_region ?_ | refine WPL_nil ?_ | (apply WPL_t; (first | exact WT_assign rfl | (apply g_load; exact WT_loadfa rfl rfl) | (apply g_un; exact WT_not rfl)); exact rfl) | refine WP_ret ?_ | refine WP_cond_t rfl ?_ | (apply WPL_op0; exact rfl; (apply g_callf; (refine WO_call Tryz.func7 rfl hfw rfl ?_; rintro _ _ ⟨rfl, rfl⟩)))))
   exact ⟨.inr rfl, ret1 rfl (.tmp rfl) (List.nil_sublist _) ⟨rfl, rfl⟩⟩
end Go.Proofs.YthldagplhklbnaaGreatDoor
