/- podiumref15: later, Expanded. -/
import Derived.Test.YthldagplhklbnaaGreatDoorPart8
import Derived.Test.YthldagplhklbnaaGreatDoorPart6
import Derived.Test.YthldagplhklbnaaGreatDoorPart7
namespace Go.Proofs.YthldagplhklbnaaGreatDoor
open Go Go.RowKit Go.Kx Go.Fr
set_option maxHeartbeats 1000000 in
set_option maxRecDepth 100000 in
theorem later15_any (j : Nat) : ∀ (k : Nat) (x : Ex), FnC Tryz.prog 21 [agg (exV k x), exI .i64 (j : Int)] [] (fun p loc => p = exB (x.later j) ∧ loc = []) := by
 intro k
 induction k with
 | zero => intro x; exact Zbe (i := 0) rfl Says_ex0 fun h => h.elim
 | succ k ih =>
   intro x
   refine Zbe (i := 0) rfl (Zc7 (i := 4) (p := isl (eEx k) x.l) rfl Zbm) fun hlen => ?_
   obtain ⟨hlen, -⟩ := hlen
   simp only [maxLen] at hlen
   show FnC Tryz.prog 21 [agg [exI .i64 x.kind, exT x.name, exI .i64 x.n, exI .i64 x.d, isl (eEx k) x.l], exI .i64 (j : Int)] [] (fun p loc => p = exB (x.later j) ∧ loc = [])
   rw [Ex.later_l]
   unfold RulesD.lateN
   refine Zb4 Tryz.func21 rfl Tryz.ntmps21 rfl fun w0 F0 out => ?_
   (repeat' (first | (apply cuts_at 1; refine Stop.out ?_) | refine Za8 ?_ | refine Za1 ?_ | refine Za6 ?_ | (apply Za9; (exact Za2 rfl); exact rfl) | (apply Zah; exact rfl; (apply Zc3; refine Zby rfl ?_; intro _))))
   refine ⟨Zbh (Zcd (k := 0) (t := 2) rfl rfl) ?_⟩
   by_cases hh : x.kind = 5 ∧ (j : Int) ≤ x.n
   · obtain ⟨hh1, hh2⟩ := hh
     rw [decide_eq_true hh1, decide_eq_true hh2]
     (repeat' (first | refine Za8 ?_ | refine Za1 ?_ | refine Za6 ?_ | (apply Za9; (first | exact Za3 rfl | exact Za2 rfl | exact Zav (b := true) rfl (fun _ => rfl) (fun e => by cases e) | (apply Za7; exact Zau rfl rfl) | (apply Zar; exact Zat rfl rfl rfl) | (apply Zaf; exact Zcb rfl rfl)); exact rfl) | (apply Zbr; exact rfl; exact rfl; exact rfl; (first | exact Za3 rfl | (apply Za7; exact Zau rfl rfl) | (apply Zar; exact Zat rfl rfl rfl) | (apply Zaf; exact Zck rfl rfl)); exact rfl) | refine Zaq ?_ | (refine Zbk rfl rfl (fun hb => ?_) (fun hb => ?_) <;> (repeat (first | replace hb := Zam hb | replace hb := Zal hb)) <;> (try (exfalso; contradiction))) | (refine Zab rfl (fun hb => ?_) (fun hb => ?_) <;> (repeat (first | replace hb := Zam hb | replace hb := Zal hb)) <;> (try (exfalso; contradiction)))))
     all_goals (try (exfalso; first | contradiction | omega))
     all_goals exact ⟨.inr rfl, ret1 rfl (.tmp rfl) (List.nil_sublist _) ⟨rfl, rfl⟩⟩
   · have hno : (decide (x.kind = 5) && decide ((j : Int) ≤ x.n)) = false := by
       rw [Bool.and_eq_false_iff, decide_eq_false_iff_not, decide_eq_false_iff_not]; omega
     rw [hno, Bool.false_or]
     clear hno
     (repeat' (first | refine Za8 ?_ | refine Za1 ?_ | refine Za6 ?_ | (apply Za9; (first | exact Za3 rfl | exact Za2 rfl | exact Zav (b := true) rfl (fun _ => rfl) (fun e => by cases e) | exact Zav (b := false) rfl (fun e => by cases e) (fun _ => rfl) | (apply Za7; exact Zau rfl rfl) | (apply Zar; exact Zat rfl rfl rfl) | (apply Zaf; exact Zcb rfl rfl)); exact rfl) | (refine Zbs rfl rfl rfl rfl rfl ?_) | (apply Zbr; exact rfl; exact rfl; exact rfl; (first | exact Za3 rfl | (apply Za7; exact Zau rfl rfl) | (apply Zar; exact Zat rfl rfl rfl) | (apply Zaf; exact Zck rfl rfl)); exact rfl) | refine Zaa ?_ | refine Zag ?_ | refine Zb8 rfl ?_ | (refine Zbk rfl rfl (fun hb => ?_) (fun hb => ?_) <;> (repeat (first | replace hb := Zam hb | replace hb := Zal hb)) <;> (try (exfalso; fail))) | (refine Zab rfl (fun hb => ?_) (fun hb => ?_) <;> (repeat (first | replace hb := Zam hb | replace hb := Zal hb)) <;> (try (exfalso; omega)))))
     all_goals (try (exfalso; first | contradiction | omega))
     all_goals (refine Zbn (fun i : Nat => ([(1, exI .i64 (j : Int)), (2, fp [exI .i64 x.kind, exT x.name, exI .i64 x.n, exI .i64 x.d, isl (eEx k) x.l]), (5, exI .i64 (i : Int))], [])) (fun i => i ≤ x.l.length ∧ (x.l.take i).any (Ex.later j) = false) (fun i => x.l.length - i) 0 ?_ ⟨Nat.zero_le _, rfl⟩ fun i hi => ?_)
     all_goals (try exact Zae (by repeat (first | exact Zaj | refine Zac rfl ?_)) (List.Sublist.refl _))
     all_goals (obtain ⟨hi, hpre⟩ := hi; by_cases hlt : i < x.l.length)
     all_goals (first | (have hcall := ih x.l[i]) | skip)
     all_goals (first | (cases hv : x.l[i].later j) | (rw [show i = x.l.length by omega, List.take_length] at hpre))
     all_goals (try rw [hv] at hcall)
     all_goals (first | (have hok := any_take_no hlt hpre hv) | (rw [any_yes hlt hv]) | (rw [hpre]))
     all_goals (clear hpre)
     all_goals ((repeat' (first | refine Za8 ?_ | refine Za1 ?_ | refine Za6 ?_ | (apply Za9; (first | exact Za3 rfl | exact Za2 rfl | (apply Za7; first | exact Zau rfl rfl | exact Zb3 rfl rfl) | (apply Zar; exact Zat rfl rfl rfl) | (apply Zaf; first | exact Zaw rfl rfl | exact Zbd rfl rfl) | (apply Zak; exact Zao rfl rfl rfl) | (apply Zax; exact Zaz rfl rfl)); exact rfl) | refine Zaa ?_ | refine Zag ?_ | refine Zaq ?_ | refine Zbi ?_ | refine Zb7 rfl ?_ | refine Zb8 rfl ?_ | (apply Zah; exact rfl; (apply Zan; (refine Zay Tryz.func21 rfl hcall rfl ?_; rintro _ _ ⟨rfl, rfl⟩))) | (refine Zab rfl (fun hb => ?_) (fun hb => ?_) <;> (repeat (first | replace hb := Zam hb | replace hb := Zal hb)) <;> (try (exfalso; omega))))))
     all_goals (try (exfalso; first | contradiction | omega))
     all_goals (first | exact ⟨.inr rfl, ret1 rfl (.tmp rfl) (List.nil_sublist _) ⟨rfl, rfl⟩⟩ | exact ⟨i + 1, ⟨by omega, hok⟩, by omega, Zae (by repeat (first | exact Zaj | refine Zac rfl ?_)) (List.Sublist.refl _)⟩)
set_option maxHeartbeats 1000000 in
set_option maxRecDepth 100000 in
theorem expanded15_any (kk : Nat) (r : RulesD) {rk : Nat → Nat} {F : Nat → List KeyD} (hk : Hk r.ties) (hr : Ranked r.ties rk) (hF : Full r.ties F) (hl : ∀ t ∈ r.ties, t.keys.length ≤ 40 ∧ ∀ k ∈ t.keys, k.kind = 5 → 0 ≤ k.n) (hsh : ∀ i, i < r.ties.length → (F i).length ≤ 32) (_ : r.ties.length ≤ 20) : ∀ i, i < r.ties.length → FnC Tryz.prog 22 [rul kk r, exI .i64 (i : Int)] [] (fun p loc => p = isl eKey (F i) ∧ loc = []) := by
 refine rank_ind hk hr fun i hi ih => ?_
 rw [hF i hi]
 rw [keysAt_get hi] at ih ⊢
 have hlk := (hk i hi).2
 rw [keysAt_get hi] at hlk
 obtain ⟨hl1, hl2⟩ := hl _ (List.getElem_mem hi)
 generalize hkk : r.ties[i].keys = ks at ih hlk hl1 hl2 ⊢
 unfold rul at *
 refine Zb4 Tryz.func22 rfl Tryz.ntmps22 rfl fun w0 F0 out => ?_
 (repeat' (first | (apply Zbb 1; refine Stop.out ?_) | refine Za8 ?_ | refine Za1 ?_ | refine Za6 ?_ | (apply Za9; (exact Za2 rfl); exact rfl) | (apply Zah; exact rfl; (apply Zc3; refine Zby rfl ?_; intro _))))
 refine ⟨Zbh (Zcd (k := 0) (t := 2) rfl rfl) ?_⟩
 (repeat' (first | (apply cuts_at 3; refine Stop.out ?_) | refine Za8 ?_ | refine Za1 ?_ | refine Za6 ?_ | (apply Za9; (first | exact Za3 rfl | exact Za2 rfl | (apply Za7; exact Zau rfl rfl) | (apply Zar; exact Zat rfl rfl rfl) | (apply Zak; exact Zao rfl rfl rfl)); exact rfl)))
 rw [hkk]
 refine ⟨?_⟩
 (repeat' (first | refine Za8 ?_ | refine Za1 ?_ | refine Za6 ?_ | (apply Za9; (first | exact Za2 rfl); exact rfl) | refine Zaa ?_))
 have hW : ∀ q, ((ks.take q).flatMap (exd F)).length ≤ 33 * 40 := fun q => by
   have h1 : ∀ l : List KeyD, (∀ k ∈ l, (exd F k).length ≤ 33) → (l.flatMap (exd F)).length ≤ 33 * l.length := fun l h => by
     induction l with
     | nil => simp
     | cons a l ih2 =>
       have h2 := h a List.mem_cons_self
       have h3 := ih2 fun k hk => h k (List.mem_cons_of_mem _ hk)
       rw [List.flatMap_cons, List.length_append, List.length_cons]; omega
   have h2 := h1 (ks.take q) fun k hkq => by
     unfold exd
     split
     · rename_i h5
       have := hsh _ (hlk k (List.mem_of_mem_take hkq) h5)
       omega
     · simp
   have h3 : (ks.take q).length ≤ 40 := by rw [List.length_take]; omega
   omega
 refine Zbn (fun s : Nat × Value => ([(2, fp (rulesV kk r)), (5, ex s.2), (6, isl eKey ks), (7, exI .i64 (s.1 : Int))], [vec s.2 42 3 ((ks.take s.1).flatMap (exd F)).length (((ks.take s.1).flatMap (exd F)).flatMap keyV)])) (fun s => s.1 ≤ ks.length) (fun s => ks.length - s.1) (0, .slice none 0 0) ?_ (Nat.zero_le _) fun s hs => ?_
 · refine Leads_nilv 42 3 ?_
   exact Zae (by repeat (first | exact Zaj | refine Zac rfl ?_)) (List.Sublist.refl _)
 obtain ⟨q, v⟩ := s
 simp only at hs ⊢
 by_cases hlq : q < ks.length
 · have hWq := hW q
   have hstep : (ks.take (q + 1)).flatMap (exd F) = (ks.take q).flatMap (exd F) ++ exd F ks[q] := by
     rw [List.take_succ_eq_append_getElem hlq, List.flatMap_append]; simp only [List.flatMap_cons, List.flatMap_nil, List.append_nil]
   generalize (ks.take q).flatMap (exd F) = W at *
   unfold exd at hstep
   by_cases h5 : ks[q].kind = 5
   · have hb := hl2 _ (List.getElem_mem hlq) h5
     have hlk2 := hlk _ (List.getElem_mem hlq) h5
     have hcall := ih _ (List.getElem_mem hlq) h5
     have hsh2 := hsh _ hlk2
     rw [Int.toNat_of_nonneg hb] at hcall
     rw [if_pos h5] at hstep
     have hstep : (ks.take (q + 1)).flatMap (exd F) = W ++ F ks[q].n.toNat := hstep
     (repeat' (first | (apply Zbb 7; refine Stop.out ?_) | refine Za8 ?_ | refine Za1 ?_ | refine Za6 ?_ | (apply Za9; (first | exact Za3 rfl | (apply Za7; exact Zau rfl rfl) | (apply Zar; exact Zat rfl rfl rfl) | (apply Zaf; first | exact Zaw rfl rfl | exact Zcb rfl rfl) | (apply Zak; exact Zao rfl rfl rfl) | (apply Zax; exact Zaz rfl rfl)); exact rfl) | refine Zaa ?_ | refine Zag ?_ | (refine Zab rfl (fun hb => ?_) (fun hb => ?_) <;> (repeat (first | replace hb := Zam hb | replace hb := Zal hb)) <;> (try (exfalso; first | contradiction | omega)))))
     all_goals (try (exfalso; first | contradiction | omega))
     refine ⟨?_⟩
     (refine WP_draw [] 10 rfl ?_)
     all_goals ((apply Za4 0 rfl (by decide +kernel) rfl (by repeat (first | exact Za5)) Za0; (first | exact Za3 rfl); exact rfl))
     all_goals ((apply Zb0 1 rfl (by decide +kernel) rfl (by decide +kernel) (by repeat (first | exact Za5)) Za0; (first | (apply Za7; first | exact Zb3 rfl rfl)); exact rfl))
     all_goals ((apply Za4 2 rfl (by decide +kernel) rfl (by repeat (first | exact Za5)) Za0; (first | exact Za3 rfl); exact rfl))
     all_goals ((apply Za4 3 rfl (by decide +kernel) rfl (by repeat (first | exact Za5)) Za0; (first | exact Za3 rfl); exact rfl))
     all_goals ((apply Za4 4 rfl (by decide +kernel) rfl (by repeat (first | exact Za5)) Za0; (first | (apply Zak; first | exact Zao rfl rfl rfl)); exact rfl))
     all_goals ((apply Za4 5 rfl (by decide +kernel) rfl (by repeat (first | exact Za5)) Za0; (first | (apply Zar; first | exact Zat rfl rfl rfl)); exact rfl))
     all_goals ((apply Zb0 6 rfl (by decide +kernel) rfl (by decide +kernel) (by repeat (first | exact Za5)) Za0; (first | (apply Za7; first | exact Zau rfl rfl)); exact rfl))
     all_goals ((apply Zas 7; exact (by decide +kernel); exact rfl; exact Za0; exact (fun _ _ h => h); (apply Zan; (refine Zay Tryz.func22 rfl hcall rfl ?_; rintro _ _ ⟨rfl, rfl⟩))))
     all_goals ((apply Zas 8; exact (by decide +kernel); exact rfl; exact Za0; exact (fun _ _ h => h); (apply Zch; ((refine Zcg (k := 0) (l0 := []) rfl rfl (by exact Src_isl rfl) rfl ?_)); intro _)))
     all_goals ((apply Za4 9 rfl (by decide +kernel) rfl (by repeat (first | exact Za5)) Za0; (first | exact Za2 rfl); exact rfl))
     all_goals (refine Zb9 (by decide +kernel) ?_)
     all_goals ((repeat' (first | refine Za1 ?_ | refine Za6 ?_ | (apply Za9; (first | exact Za3 rfl | exact Za2 rfl | (apply Zaf; exact Zbd rfl rfl)); exact rfl))))
     all_goals (try (exfalso; first | contradiction | omega))
     rename_i v2
     refine ⟨(q + 1, v2), by show q + 1 ≤ _; omega, by show ks.length - (q + 1) < ks.length - q; omega, ?_⟩
     simp only [hstep, List.length_append, List.flatMap_append]
     exact Zae (by repeat (first | exact Zaj | refine Zac rfl ?_)) (List.Sublist.refl _)
   · rw [if_neg h5] at hstep
     have hstep : (ks.take (q + 1)).flatMap (exd F) = W ++ [ks[q]] := hstep
     (repeat' (first | (apply Zah; exact rfl; apply Zch; refine Zcg (k := 1) (l0 := []) rfl rfl (by exact Src_row (k := 0) (qs := keyV ks[q]) rfl rfl rfl) rfl ?_; intro _) | refine Za8 ?_ | refine Za1 ?_ | refine Za6 ?_ | (apply Za9; (first | exact Za3 rfl | exact Za2 rfl | (apply Za7; first | exact Zau rfl rfl | exact Zb3 rfl rfl) | (apply Zar; exact Zat rfl rfl rfl) | (apply Zaf; first | exact Zaw rfl rfl | exact Zcb rfl rfl | exact Zbd rfl rfl) | (apply Zak; exact Zao rfl rfl rfl) | (apply Zax; exact Zaz rfl rfl)); exact rfl) | refine Zaa ?_ | refine Zag ?_ | (apply Zah; exact rfl; (apply Zca; (refine Zce rfl rfl ?_); intro _)) | (refine Zab rfl (fun hb => ?_) (fun hb => ?_) <;> (repeat (first | replace hb := Zam hb | replace hb := Zal hb)) <;> (try (exfalso; first | contradiction | omega)))))
     all_goals (try (exfalso; first | contradiction | omega))
     rename_i v2
     refine ⟨(q + 1, v2), by show q + 1 ≤ _; omega, by show ks.length - (q + 1) < ks.length - q; omega, ?_⟩
     simp only [hstep, List.length_append, List.flatMap_append, List.length_cons, List.length_nil, List.flatMap_cons, List.flatMap_nil, List.append_nil]
     exact Zae (by repeat (first | exact Zaj | refine Zac rfl ?_)) (.cons _ (.refl _))
 · have hWq := hW ks.length
   rw [show q = ks.length by omega]
   rw [List.take_length] at hWq ⊢
   (repeat' (first | (apply Zbb 9; refine Stop.out ?_) | refine Za8 ?_ | refine Za1 ?_ | refine Za6 ?_ | (apply Za9; (first | exact Za3 rfl | (apply Zaf; exact Zaw rfl rfl) | (apply Zax; exact Zaz rfl rfl)); exact rfl) | refine Zbi ?_ | (refine Zab rfl (fun hb => ?_) (fun hb => ?_) <;> (repeat (first | replace hb := Zam hb | replace hb := Zal hb)) <;> (try (exfalso; omega)))))
   all_goals (try (exfalso; omega))
   refine ⟨Zbh (Leads_fvec (k := 0) (t := 5) (E := eKey) (ks.flatMap (exd F)) rfl rfl rfl rfl (hby := by show _ * 32 ≤ _; omega)) ?_⟩
   (repeat' (first | refine Za1 ?_ | refine Za6 ?_ | (apply Za9; (first | exact Za3 rfl | exact Za2 rfl); exact rfl) | refine Zaq ?_))
   exact ⟨.inr rfl, ret1 rfl (.tmp rfl) (List.nil_sublist _) ⟨rfl, rfl⟩⟩
end Go.Proofs.YthldagplhklbnaaGreatDoor
namespace Go.Fr
open Go.RowKit Go.Kx
theorem roundsBad_drop {L : List (List KeyD)} {l : List RoundD} {j : Nat} (h : j < l.length) : RulesD.roundsBad L j (l.drop j) = (RulesD.roundBad L j l[j] || RulesD.roundsBad L (j + 1) (l.drop (j + 1))) := by
 rw [List.drop_eq_getElem_cons h, RulesD.roundsBad]
theorem keyF_len {ties : List TieD} {F : Nat → List KeyD} {i : Nat} (h : i < ties.length) : ((List.range ties.length).map F).getD i [] = F i := by
 rw [List.getD_eq_getElem?_getD, List.getElem?_map, List.getElem?_range h]; rfl
end Go.Fr
namespace Go.Proofs.YthldagplhklbnaaGreatDoor
open Go Go.RowKit Go.Kx Go.Fr
set_option maxHeartbeats 4000000 in
set_option maxRecDepth 100000 in
theorem rcheck15_any (kk : Nat) (r : RulesD) (hf : r.few = true) : FnC Tryz.prog 9 [rul kk r] [] (fun p loc => p = exI .i64 (r.check15 freeF).2 ∧ loc = []) := by
 have hnch := r14check_any kk r hf
 obtain ⟨-, -, -, hf4, hf5, -, -, hf8, -⟩ := few_facts hf
 have hfrm := formed15_any kk r hf8
 by_cases h1 : r.check freeF = 0
 · rw [h1] at hnch
   have hs := RulesD.sound_of h1
   have hlin := hs.linked
   have htie := hs.tieNo
   have hcir := circular15_any kk r hf4 fun t ht => (hlin t ht).2
   have hman := many15_any kk r hf4 fun t ht => (hlin t ht).2
   cases hfi : r.fine
   · have hres : (r.check15 freeF).2 = 150 := by
       unfold RulesD.check15
       rw [if_neg (by simp [h1]), hfi]; rfl
     rw [hres]
     rw [hfi] at hfrm
     unfold rul at *
     refine Zb4 Tryz.func9 rfl Tryz.ntmps9 rfl fun w0 F0 out => ?_
     (repeat' (first | (apply Zbb 1; refine Stop.out ?_) | refine Za8 ?_ | refine Za1 ?_ | refine Za6 ?_ | (apply Za9; (exact Za2 rfl); exact rfl) | (apply Zah; exact rfl; (apply Zc3; refine Zby rfl ?_; intro _))))
     refine ⟨Zbh (Zcd (k := 0) (t := 1) rfl rfl) ?_⟩
     (repeat' (first | refine Za8 ?_ | refine Za1 ?_ | refine Za6 ?_ | (apply Za9; (first | exact Za3 rfl | exact Za2 rfl | (apply Za7; exact Zb3 rfl rfl) | (apply Zaf; exact Zc0 rfl rfl) | (apply g_un; exact Zbj rfl)); exact rfl) | refine Zag ?_ | refine Zaq ?_ | refine Zb7 rfl ?_ | refine Zb8 rfl ?_ | (apply Zah; exact rfl; (apply Zan; first | (refine Zay Tryz.func14 rfl hnch rfl ?_; rintro _ _ ⟨rfl, rfl⟩) | (refine Zay Tryz.func15 rfl hfrm rfl ?_; rintro _ _ ⟨rfl, rfl⟩)))))
     all_goals (try (exfalso; first | contradiction | omega))
     exact ⟨.inr rfl, ret1 rfl (.tmp rfl) (List.nil_sublist _) ⟨rfl, rfl⟩⟩
   have hk := RulesD.hk_of hs hfi
   rw [hfi] at hfrm
   have hcl := circF_len r.ties r.ties.length
   have hres : (r.check15 freeF).2 = if (expansionF r.ties).2 ≠ 0 then (expansionF r.ties).2 else if RulesD.roundsBad (expansionF r.ties).1 0 r.rounds then 151 else 0 := by
     unfold RulesD.check15
     rw [if_neg (by simp [h1]), hfi]
     simp only [Bool.not_true, Bool.false_eq_true, if_false]
     split
     · rfl
     · split <;> rfl
   rw [hres]
   unfold rul at hnch hfrm hcir hman ⊢
   refine Zbe (i := 0) rfl (Zc7 (i := 5) (p := isl (eRound kk) r.rounds) rfl Zbm) fun hry => ?_
   obtain ⟨hry, -⟩ := hry
   simp only [maxLen] at hry
   clear hf8 hres hs h1 hfi
   refine Zb4 Tryz.func9 rfl Tryz.ntmps9 rfl fun w0 F0 out => ?_
   (repeat' (first | (apply Zbb 1; refine Stop.out ?_) | refine Za8 ?_ | refine Za1 ?_ | refine Za6 ?_ | (apply Za9; (exact Za2 rfl); exact rfl) | (apply Zah; exact rfl; (apply Zc3; refine Zby rfl ?_; intro _))))
   refine ⟨Zbh (Zcd (k := 0) (t := 1) rfl rfl) ?_⟩
   (repeat' (first | refine Za8 ?_ | refine Za1 ?_ | refine Za6 ?_ | (apply Za9; (first | exact Za3 rfl | exact Za2 rfl | (apply Za7; exact Zb3 rfl rfl) | (apply Zaf; exact Zc0 rfl rfl) | (apply g_un; exact Zbj rfl)); exact rfl) | refine Zaa ?_ | refine Zag ?_ | refine Zb8 rfl ?_ | (apply Zah; exact rfl; (apply Zan; first | (refine Zay Tryz.func14 rfl hnch rfl ?_; rintro _ _ ⟨rfl, rfl⟩) | (refine Zay Tryz.func15 rfl hfrm rfl ?_; rintro _ _ ⟨rfl, rfl⟩) | (refine Zay Tryz.func19 rfl hcir rfl ?_; rintro _ _ ⟨rfl, rfl⟩)))))
   all_goals (try (exfalso; first | contradiction | omega))
   refine Zbn (fun i : Nat => ([(1, fp (rulesV kk r)), (4, isl eBool (circF r.ties r.ties.length)), (5, exI .i64 (i : Int))], [])) (fun i => i ≤ r.ties.length ∧ ∀ b ∈ (circF r.ties r.ties.length).take i, b = false) (fun i => r.ties.length - i) 0 ?_ ⟨Nat.zero_le _, fun b hb => by cases hb⟩ fun i hi => ?_
   · exact Zae (by repeat (first | exact Zaj | refine Zac rfl ?_)) (List.Sublist.refl _)
   obtain ⟨hi, hpre⟩ := hi
   by_cases hlt : i < r.ties.length
   · have hlt2 : i < (circF r.ties r.ties.length).length := by omega
     cases hv : (circF r.ties r.ties.length)[i]
     · have hok : ∀ b ∈ (circF r.ties r.ties.length).take (i + 1), b = false := fun b hb => by
         rw [List.take_succ_eq_append_getElem hlt2] at hb
         rcases List.mem_append.1 hb with h | h
         · exact hpre b h
         · rw [List.mem_singleton.1 h]; exact hv
       clear hpre
       (repeat' (first | refine Za8 ?_ | refine Za1 ?_ | refine Za6 ?_ | (apply Za9; (first | exact Za3 rfl | exact Za2 rfl | (apply Za7; exact Zau rfl rfl) | (apply Zaf; first | exact Zaw rfl rfl | exact Zbd rfl rfl) | (apply Zak; exact Zao rfl rfl rfl) | (apply Zax; exact Zaz rfl rfl)); exact rfl) | refine Zaa ?_ | refine Zag ?_ | refine Zaq ?_ | (refine Zab rfl (fun hb => ?_) (fun hb => ?_) <;> (repeat (first | replace hb := Zam hb | replace hb := Zal hb)) <;> (try (exfalso; omega)))))
       all_goals (try (exfalso; first | contradiction | omega | (simp_all; done)))
       all_goals exact ⟨i + 1, ⟨by omega, hok⟩, by omega, Zae (by repeat (first | exact Zaj | refine Zac rfl ?_)) (List.Sublist.refl _)⟩
     · have hna : ¬ Acyc r.ties := fun h => by
         have := circF_off hk h _ (List.getElem_mem hlt2)
         rw [hv] at this; cases this
       rw [expansionF_circle hk hna]
       clear hpre
       (repeat' (first | refine Za8 ?_ | refine Za1 ?_ | refine Za6 ?_ | (apply Za9; (first | exact Za3 rfl | exact Za2 rfl | (apply Za7; exact Zau rfl rfl) | (apply Zaf; first | exact Zaw rfl rfl | exact Zbd rfl rfl) | (apply Zak; exact Zao rfl rfl rfl) | (apply Zax; exact Zaz rfl rfl)); exact rfl) | refine Zaa ?_ | refine Zag ?_ | refine Zaq ?_ | (refine Zab rfl (fun hb => ?_) (fun hb => ?_) <;> (repeat (first | replace hb := Zam hb | replace hb := Zal hb)) <;> (try (exfalso; omega)))))
       all_goals (try (exfalso; first | contradiction | omega | (simp_all; done)))
       all_goals exact ⟨.inr rfl, ret1 rfl (.tmp rfl) (List.nil_sublist _) ⟨rfl, rfl⟩⟩
   rw [show i = (circF r.ties r.ties.length).length by omega, List.take_length] at hpre
   obtain ⟨rk, hr⟩ := circF_acyc hk hpre
   obtain ⟨F, hF⟩ := full_ex hk hr
   obtain ⟨ha1, ha2⟩ := expansionF_acyc hk hr hF
   rw [manyF_full hk hr hF] at hman
   have hlM : (((List.range r.ties.length).map fun i => min (F i).length 33).map fun n : Nat => (n : Int)).length = r.ties.length := by simp
   have hgM : ∀ (i : Nat) (h : i < (((List.range r.ties.length).map fun i => min (F i).length 33).map fun n : Nat => (n : Int)).length), (((List.range r.ties.length).map fun i => min (F i).length 33).map fun n : Nat => (n : Int))[i] = ((min (F i).length 33 : Nat) : Int) := fun i h => by simp
   generalize ((List.range r.ties.length).map fun i => min (F i).length 33).map (fun n : Nat => (n : Int)) = M at hman hlM hgM
   have hex := expanded15_any kk r hk hr hF fun t ht => ⟨by have := (hlin t ht).1; omega, fun k hkm h5 => ((hlin t ht).2 k hkm h5).1⟩
   clear hpre hcir hlin
   (repeat' (first | refine Za8 ?_ | refine Za1 ?_ | refine Za6 ?_ | (apply Za9; (first | exact Za3 rfl | exact Za2 rfl | (apply Za7; exact Zb3 rfl rfl) | (apply Zaf; exact Zaw rfl rfl) | (apply Zax; exact Zaz rfl rfl)); exact rfl) | refine Zaa ?_ | refine Zbi ?_ | (apply Zah; exact rfl; (apply Zan; (refine Zay Tryz.func20 rfl hman rfl ?_; rintro _ _ ⟨rfl, rfl⟩))) | (refine Zab rfl (fun hb => ?_) (fun hb => ?_) <;> (repeat (first | replace hb := Zam hb | replace hb := Zal hb)) <;> (try (exfalso; omega)))))
   all_goals (try (exfalso; first | contradiction | omega))
   refine Zbn (fun i : Nat => ([(1, fp (rulesV kk r)), (6, isl eI M), (7, exI .i64 (i : Int))], [])) (fun i => i ≤ r.ties.length ∧ ∀ j, j < i → (F j).length ≤ 32) (fun i => r.ties.length - i) 0 ?_ ⟨Nat.zero_le _, fun j hj => by omega⟩ fun i hi => ?_
   · exact Zae (by repeat (first | exact Zaj | refine Zac rfl ?_)) (List.Sublist.refl _)
   obtain ⟨hi, hpre⟩ := hi
   by_cases hlt : i < r.ties.length
   · have hg := hgM i (by omega)
     by_cases hlg : 32 < (F i).length
     · rw [ha1 ⟨i, hlt, hlg⟩]
       clear hpre
       (repeat' (first | refine Za8 ?_ | refine Za1 ?_ | refine Za6 ?_ | (apply Za9; (first | exact Za3 rfl | exact Za2 rfl | (apply Za7; exact Zau rfl rfl) | (apply Zaf; first | exact Zaw rfl rfl | exact Zcf rfl rfl) | (apply Zak; exact Zao rfl rfl rfl) | (apply Zax; exact Zaz rfl rfl)); exact rfl) | refine Zaa ?_ | refine Zag ?_ | refine Zaq ?_ | (refine Zab rfl (fun hb => ?_) (fun hb => ?_) <;> (repeat (first | replace hb := Zam hb | replace hb := Zal hb)) <;> (try (exfalso; omega)))))
       all_goals (try (exfalso; first | contradiction | omega))
       all_goals exact ⟨.inr rfl, ret1 rfl (.tmp rfl) (List.nil_sublist _) ⟨rfl, rfl⟩⟩
     · have hok : ∀ j, j < i + 1 → (F j).length ≤ 32 := fun j hj => by
         by_cases hji : j = i
         · subst hji; omega
         · exact hpre j (by omega)
       clear hpre
       (repeat' (first | refine Za8 ?_ | refine Za1 ?_ | refine Za6 ?_ | (apply Za9; (first | exact Za3 rfl | exact Za2 rfl | (apply Za7; exact Zau rfl rfl) | (apply Zaf; first | exact Zaw rfl rfl | exact Zcf rfl rfl | exact Zbd rfl rfl) | (apply Zak; exact Zao rfl rfl rfl) | (apply Zax; exact Zaz rfl rfl)); exact rfl) | refine Zaa ?_ | refine Zag ?_ | (refine Zab rfl (fun hb => ?_) (fun hb => ?_) <;> (repeat (first | replace hb := Zam hb | replace hb := Zal hb)) <;> (try (exfalso; omega)))))
       all_goals (try (exfalso; first | contradiction | omega))
       all_goals exact ⟨i + 1, ⟨by omega, hok⟩, by omega, Zae (by repeat (first | exact Zaj | refine Zac rfl ?_)) (List.Sublist.refl _)⟩
   have hsh : ∀ i, i < r.ties.length → (F i).length ≤ 32 := fun j hj => hpre j (by omega)
   rw [ha2 hsh]
   have hex := hex hsh hf4
   have hgF : ∀ i, i < r.ties.length → ((List.range r.ties.length).map F).getD i [] = F i := fun i h => keyF_len h
   generalize (List.range r.ties.length).map F = L at hgF
   clear hpre ha1 ha2 hman hgM
   simp only [ne_eq, not_true_eq_false, if_false]
   (repeat' (first | refine Za8 ?_ | refine Za1 ?_ | refine Za6 ?_ | (apply Za9; (first | exact Za3 rfl | exact Za2 rfl | (apply Zaf; exact Zaw rfl rfl) | (apply Zax; exact Zaz rfl rfl)); exact rfl) | refine Zaa ?_ | refine Zbi ?_ | (refine Zab rfl (fun hb => ?_) (fun hb => ?_) <;> (repeat (first | replace hb := Zam hb | replace hb := Zal hb)) <;> (try (exfalso; omega)))))
   all_goals (try (exfalso; first | contradiction | omega))
   refine Zbn (fun j : Nat => ([(1, fp (rulesV kk r)), (8, exI .i64 (j : Int))], [])) (fun j => j ≤ r.rounds.length ∧ RulesD.roundsBad L 0 r.rounds = RulesD.roundsBad L j (r.rounds.drop j)) (fun j => r.rounds.length - j) 0 ?_ ⟨Nat.zero_le _, rfl⟩ fun j hj => ?_
   · exact Zae (by repeat (first | exact Zaj | refine Zac rfl ?_)) (List.Sublist.refl _)
   obtain ⟨hj, hrb⟩ := hj
   by_cases hlj : j < r.rounds.length
   · rw [roundsBad_drop hlj] at hrb
     have hlat := later15_any j kk r.rounds[j].score
     unfold RulesD.roundBad at hrb
     rw [← Ex.later_pre] at hrb
     obtain ⟨ht1, ht2⟩ := htie _ (List.getElem_mem hlj)
     cases hv : r.rounds[j].score.later j
     · rw [hv, Bool.false_or] at hrb
       rw [hv] at hlat
       by_cases h0 : 0 ≤ r.rounds[j].tieNo
       · rw [decide_eq_true h0, Bool.true_and, hgF _ (by omega)] at hrb
         have hexd := hex r.rounds[j].tieNo.toNat (by omega)
         rw [Int.toNat_of_nonneg h0] at hexd
         have hK := hsh r.rounds[j].tieNo.toNat (by omega)
         generalize F r.rounds[j].tieNo.toNat = K at hrb hexd hK
         (repeat' (first | (apply cut_at 24; refine Stop.out ?_) | refine Za8 ?_ | refine Za1 ?_ | refine Za6 ?_ | (apply Za9; (first | exact Za3 rfl | (apply Za7; first | exact Zau rfl rfl | exact Zb3 rfl rfl) | (apply Zar; exact Zat rfl rfl rfl) | (apply Zaf; exact Zaw rfl rfl) | (apply Zak; exact Zao rfl rfl rfl) | (apply Zax; exact Zaz rfl rfl)); exact rfl) | refine Zaa ?_ | refine Zag ?_ | refine Zb8 rfl ?_ | (apply Zah; exact rfl; (apply Zan; (refine Zay Tryz.func21 rfl hlat rfl ?_; rintro _ _ ⟨rfl, rfl⟩))) | (refine Zab rfl (fun hb => ?_) (fun hb => ?_) <;> (repeat (first | replace hb := Zam hb | replace hb := Zal hb)) <;> (try (exfalso; omega)))))
         all_goals (try (exfalso; first | contradiction | omega))
         refine ⟨?_⟩
         refine WP_cutR 24 (fun _ : Unit => ([(1, fp (rulesV kk r)), (8, exI .i64 (j : Int)), (9, isl eKey K)], [])) (fun _ => True) ?_ fun _ _ => ?_
         · skip
           (refine Zbx 9 rfl ?_)
           all_goals ((apply Zb0 0 rfl (by decide +kernel) rfl (by decide +kernel) (by repeat (exact Za5)) Za0; ((apply Za7; exact Zb3 rfl rfl)); exact rfl))
           all_goals ((apply Za4 1 rfl (by decide +kernel) rfl (by repeat (first | exact Za5)) Za0; (first | (apply Zar; first | exact Zat rfl rfl rfl)); exact rfl))
           all_goals ((apply Zb0 2 rfl (by decide +kernel) rfl (by decide +kernel) (by repeat (exact Za5)) Za0; ((apply Za7; exact Zau rfl rfl)); exact rfl))
           all_goals ((apply Za4 3 rfl (by decide +kernel) rfl (by repeat (first | exact Za5)) Za0; (first | exact Za3 rfl); exact rfl))
           all_goals ((apply Za4 4 rfl (by decide +kernel) rfl (by repeat (first | exact Za5)) Za0; (first | (apply Zak; first | exact Zao rfl rfl rfl)); exact rfl))
           all_goals ((apply Za4 5 rfl (by decide +kernel) rfl (by repeat (first | exact Za5)) Za0; (first | (apply Zar; first | exact Zat rfl rfl rfl)); exact rfl))
           all_goals ((apply Zb0 6 rfl (by decide +kernel) rfl (by decide +kernel) (by repeat (exact Za5)) Za0; ((apply Za7; exact Zau rfl rfl)); exact rfl))
           all_goals ((apply Zas 7; exact (by decide +kernel); exact rfl; exact Za0; exact (fun _ _ h => h); (apply Zan; (refine Zay Tryz.func22 rfl hexd rfl ?_; rintro _ _ ⟨rfl, rfl⟩))))
           all_goals ((apply Za4 8 rfl (by decide +kernel) rfl (by repeat (first | exact Za5)) Za0; (first | exact Za2 rfl); exact rfl))
           all_goals (refine Zb9 (by decide +kernel) ?_)
           all_goals exact Zbp () trivial (Zae (by repeat (first | exact Zaj | refine Zac rfl ?_)) (List.Sublist.refl _))
         (repeat' (first | refine Za8 ?_ | refine Za1 ?_ | refine Za6 ?_ | (apply Za9; (first | exact Za2 rfl); exact rfl) | refine Zaa ?_))
         refine Zbn (fun q : Nat => ([(1, fp (rulesV kk r)), (8, exI .i64 (j : Int)), (9, isl eKey K), (10, exI .i64 (q : Int))], [])) (fun q => q ≤ K.length ∧ (K.take q).all (RulesD.earlyK j) = true) (fun q => K.length - q) 0 ?_ ⟨Nat.zero_le _, rfl⟩ fun q hq => ?_
         · exact Zae (by repeat (first | exact Zaj | refine Zac rfl ?_)) (List.Sublist.refl _)
         obtain ⟨hq, hpq⟩ := hq
         by_cases hlq : q < K.length
         · by_cases he : K[q].kind = 2 ∧ (j : Int) ≤ K[q].n
           · have hev : RulesD.earlyK j K[q] = false := by
               unfold RulesD.earlyK
               rw [Bool.or_eq_false_iff, decide_eq_false_iff_not, decide_eq_false_iff_not]; omega
             rw [all_not hlq hev, Bool.not_false, Bool.true_or] at hrb
             rw [hrb, if_pos rfl]
             clear hpq hrb
             (repeat' (first | refine Za8 ?_ | refine Za1 ?_ | refine Za6 ?_ | (apply Za9; (first | exact Za3 rfl | exact Za2 rfl | exact Zav (b := true) rfl (fun _ => rfl) (fun e => by cases e) | (apply Za7; exact Zau rfl rfl) | (apply Zar; exact Zat rfl rfl rfl) | (apply Zaf; first | exact Zaw rfl rfl | exact Zcb rfl rfl) | (apply Zak; exact Zao rfl rfl rfl) | (apply Zax; exact Zaz rfl rfl)); exact rfl) | (apply Zbr; exact rfl; exact rfl; exact rfl; (first | exact Za3 rfl | (apply Za7; exact Zau rfl rfl) | (apply Zar; exact Zat rfl rfl rfl) | (apply Zaf; exact Zck rfl rfl) | (apply Zak; exact Zao rfl rfl rfl)); exact rfl) | refine Zaa ?_ | refine Zag ?_ | refine Zaq ?_ | (refine Zbk rfl rfl (fun hb => ?_) (fun hb => ?_) <;> (repeat (first | replace hb := Zam hb | replace hb := Zal hb)) <;> (try (exfalso; omega))) | (refine Zab rfl (fun hb => ?_) (fun hb => ?_) <;> (repeat (first | replace hb := Zam hb | replace hb := Zal hb)) <;> (try (exfalso; omega)))))
             all_goals (try (exfalso; first | contradiction | omega))
             all_goals exact ⟨.inr rfl, ret1 rfl (.tmp rfl) (List.nil_sublist _) ⟨rfl, rfl⟩⟩
           · have hev : RulesD.earlyK j K[q] = true := by
               unfold RulesD.earlyK
               rw [Bool.or_eq_true, decide_eq_true_iff, decide_eq_true_iff]; omega
             have hok := all_take hlq hpq hev
             clear hpq
             (repeat' (first | refine Za8 ?_ | refine Za1 ?_ | refine Za6 ?_ | (apply Za9; (first | exact Za3 rfl | exact Za2 rfl | exact Zav (b := true) rfl (fun _ => rfl) (fun e => by cases e) | exact Zav (b := false) rfl (fun e => by cases e) (fun _ => rfl) | (apply Za7; exact Zau rfl rfl) | (apply Zar; exact Zat rfl rfl rfl) | (apply Zaf; first | exact Zaw rfl rfl | exact Zcb rfl rfl | exact Zbd rfl rfl) | (apply Zak; exact Zao rfl rfl rfl) | (apply Zax; exact Zaz rfl rfl)); exact rfl) | (refine Zbs rfl rfl rfl rfl rfl ?_) | (apply Zbr; exact rfl; exact rfl; exact rfl; (first | exact Za3 rfl | (apply Za7; exact Zau rfl rfl) | (apply Zar; exact Zat rfl rfl rfl) | (apply Zaf; exact Zck rfl rfl) | (apply Zak; exact Zao rfl rfl rfl)); exact rfl) | refine Zaa ?_ | refine Zag ?_ | refine Zb8 rfl ?_ | (refine Zbk rfl rfl (fun hb => ?_) (fun hb => ?_) <;> (repeat (first | replace hb := Zam hb | replace hb := Zal hb)) <;> (try (exfalso; fail))) | (refine Zab rfl (fun hb => ?_) (fun hb => ?_) <;> (repeat (first | replace hb := Zam hb | replace hb := Zal hb)) <;> (try (exfalso; omega)))))
             all_goals (try (exfalso; first | contradiction | omega))
             all_goals exact ⟨q + 1, ⟨by omega, hok⟩, by omega, Zae (by repeat (first | exact Zaj | refine Zac rfl ?_)) (List.Sublist.refl _)⟩
         · rw [show q = K.length by omega, List.take_length] at hpq
           rw [hpq, Bool.not_true, Bool.false_or] at hrb
           (repeat' (first | refine Za8 ?_ | refine Za1 ?_ | refine Za6 ?_ | (apply Za9; (first | exact Za3 rfl | exact Za2 rfl | (apply Zaf; first | exact Zaw rfl rfl | exact Zbd rfl rfl) | (apply Zax; exact Zaz rfl rfl)); exact rfl) | refine Zbi ?_ | (refine Zab rfl (fun hb => ?_) (fun hb => ?_) <;> (repeat (first | replace hb := Zam hb | replace hb := Zal hb)) <;> (try (exfalso; omega)))))
           all_goals (try (exfalso; first | contradiction | omega))
           exact ⟨j + 1, ⟨by omega, hrb⟩, by omega, Zae (by repeat (first | exact Zaj | refine Zac rfl ?_)) (List.Sublist.refl _)⟩
       · rw [decide_eq_false h0, Bool.false_and, Bool.false_or] at hrb
         (repeat' (first | refine Za8 ?_ | refine Za1 ?_ | refine Za6 ?_ | (apply Za9; (first | exact Za3 rfl | exact Za2 rfl | (apply Za7; first | exact Zau rfl rfl | exact Zb3 rfl rfl) | (apply Zar; exact Zat rfl rfl rfl) | (apply Zaf; first | exact Zaw rfl rfl | exact Zbd rfl rfl) | (apply Zak; exact Zao rfl rfl rfl) | (apply Zax; exact Zaz rfl rfl)); exact rfl) | refine Zaa ?_ | refine Zag ?_ | refine Zbi ?_ | refine Zb8 rfl ?_ | (apply Zah; exact rfl; (apply Zan; (refine Zay Tryz.func21 rfl hlat rfl ?_; rintro _ _ ⟨rfl, rfl⟩))) | (refine Zab rfl (fun hb => ?_) (fun hb => ?_) <;> (repeat (first | replace hb := Zam hb | replace hb := Zal hb)) <;> (try (exfalso; omega)))))
         all_goals (try (exfalso; first | contradiction | omega))
         all_goals exact ⟨j + 1, ⟨by omega, hrb⟩, by omega, Zae (by repeat (first | exact Zaj | refine Zac rfl ?_)) (List.Sublist.refl _)⟩
     · rw [hv, Bool.true_or, Bool.true_or] at hrb
       rw [hv] at hlat
       rw [hrb, if_pos rfl]
       clear hrb
       (repeat' (first | refine Za8 ?_ | refine Za1 ?_ | refine Za6 ?_ | (apply Za9; (first | exact Za3 rfl | exact Za2 rfl | (apply Za7; first | exact Zau rfl rfl | exact Zb3 rfl rfl) | (apply Zar; exact Zat rfl rfl rfl) | (apply Zaf; exact Zaw rfl rfl) | (apply Zak; exact Zao rfl rfl rfl) | (apply Zax; exact Zaz rfl rfl)); exact rfl) | refine Zaa ?_ | refine Zag ?_ | refine Zaq ?_ | refine Zb7 rfl ?_ | (apply Zah; exact rfl; (apply Zan; (refine Zay Tryz.func21 rfl hlat rfl ?_; rintro _ _ ⟨rfl, rfl⟩))) | (refine Zab rfl (fun hb => ?_) (fun hb => ?_) <;> (repeat (first | replace hb := Zam hb | replace hb := Zal hb)) <;> (try (exfalso; omega)))))
       all_goals (try (exfalso; first | contradiction | omega))
       all_goals exact ⟨.inr rfl, ret1 rfl (.tmp rfl) (List.nil_sublist _) ⟨rfl, rfl⟩⟩
   · rw [List.drop_eq_nil_of_le (by omega), RulesD.roundsBad] at hrb
     rw [hrb, if_neg (by simp)]
     clear hrb
     (repeat' (first | refine Za8 ?_ | refine Za1 ?_ | refine Za6 ?_ | (apply Za9; (first | exact Za3 rfl | exact Za2 rfl | (apply Za7; exact Zau rfl rfl) | (apply Zar; exact Zat rfl rfl rfl) | (apply Zaf; exact Zaw rfl rfl) | (apply Zax; exact Zaz rfl rfl)); exact rfl) | refine Zaq ?_ | refine Zbi ?_ | (refine Zab rfl (fun hb => ?_) (fun hb => ?_) <;> (repeat (first | replace hb := Zam hb | replace hb := Zal hb)) <;> (try (exfalso; omega)))))
     all_goals (try (exfalso; omega))
     exact ⟨.inr rfl, ret1 rfl (.tmp rfl) (List.nil_sublist _) ⟨rfl, rfl⟩⟩
 · have hres : (r.check15 freeF).2 = r.check freeF := by
     unfold RulesD.check15
     rw [if_pos h1]
   rw [hres]
   generalize r.check freeF = e at hnch h1 ⊢
   unfold rul at *
   refine Zb4 Tryz.func9 rfl Tryz.ntmps9 rfl fun w0 F0 out => ?_
   (repeat' (first | (apply Zbb 1; refine Stop.out ?_) | refine Za8 ?_ | refine Za1 ?_ | refine Za6 ?_ | (apply Za9; (exact Za2 rfl); exact rfl) | (apply Zah; exact rfl; (apply Zc3; refine Zby rfl ?_; intro _))))
   refine ⟨Zbh (Zcd (k := 0) (t := 1) rfl rfl) ?_⟩
   (repeat' (first | refine Za8 ?_ | refine Za1 ?_ | refine Za6 ?_ | (apply Za9; (first | exact Za3 rfl | exact Za2 rfl | (apply Za7; exact Zb3 rfl rfl) | (apply Zaf; exact Zc0 rfl rfl)); exact rfl) | refine Zaq ?_ | (apply Zah; exact rfl; (apply Zan; (refine Zay Tryz.func14 rfl hnch rfl ?_; rintro _ _ ⟨rfl, rfl⟩))) | (refine Zab rfl (fun hb => ?_) (fun hb => ?_) <;> (repeat (first | replace hb := Zam hb | replace hb := Zal hb | replace hb := Zbt hb | replace hb := Zbu hb)) <;> (try (exfalso; contradiction)))))
   all_goals (try (exfalso; first | contradiction | omega))
   exact ⟨.inr rfl, ret1 rfl (.tmp rfl) (List.nil_sublist _) ⟨rfl, rfl⟩⟩
end Go.Proofs.YthldagplhklbnaaGreatDoor
namespace Go.Fr
open Go.RowKit Go.Kx
theorem RulesD.full_of {fr : List UInt8 → Bool} {r : RulesD} (h : (r.check15 fr).2 = 0) : ∃ rk F, r.Sound ∧ Hk r.ties ∧ Ranked r.ties rk ∧ Full r.ties F ∧ (∀ i, i < r.ties.length → (F i).length ≤ 32) ∧ (r.check15 fr).1 = (List.range r.ties.length).map F := by
 obtain ⟨hs, hfi, _, hL, he0, _⟩ := RulesD.exp_of h
 have hk := RulesD.hk_of hs hfi
 have hac : Acyc r.ties := Classical.byContradiction fun e => by rw [expansionF_circle hk e] at he0; cases he0
 obtain ⟨rk, hr⟩ := hac
 obtain ⟨F, hF⟩ := full_ex hk hr
 have hac := expansionF_acyc hk hr hF
 have hsh : ∀ i, i < r.ties.length → (F i).length ≤ 32 := fun i hi => Classical.byContradiction fun e => by
   rw [hac.1 ⟨i, hi, by omega⟩] at he0; cases he0
 refine ⟨rk, F, hs, hk, hr, hF, hsh, ?_⟩
 rw [hL, hac.2 hsh]
end Go.Fr
namespace Go.Proofs.YthldagplhklbnaaGreatDoor
open Go Go.RowKit Go.Kx Go.Fr
set_option maxHeartbeats 1000000 in
set_option maxRecDepth 100000 in
theorem rkeys15_any (kk : Nat) (r : RulesD) (tie : Int) (hf : r.few = true) : FnC Tryz.prog 11 [rul kk r, exI .i64 tie] [] (fun p loc => p = tup [isl eKey (r.keys15 freeF tie).1, exI .i64 (r.keys15 freeF tie).2] ∧ loc = []) := by
 have hrck := rcheck15_any kk r hf
 unfold RulesD.keys15
 by_cases he : (r.check15 freeF).2 = 0
 · obtain ⟨rk, F, hs, hk, hr, hF, hsh, hL⟩ := RulesD.full_of he
   have hlin := hs.linked
   have hex := expanded15_any kk r hk hr hF (fun t ht => ⟨by have := (hlin t ht).1; omega, fun k hkm h5 => ((hlin t ht).2 k hkm h5).1⟩) hsh (few_facts hf).2.2.2.1
   rw [he] at hrck ⊢
   rw [hL, if_neg (by simp)]
   clear hL he
   unfold rul at *
   refine Zbe (i := 0) rfl (Zc7 (i := 4) (p := isl eTie r.ties) rfl Zbm) fun hty => ?_
   obtain ⟨hty, -⟩ := hty
   simp only [maxLen] at hty
   by_cases h1 : tie < -1 ∨ (r.ties.length : Int) ≤ tie
   · rw [if_pos h1]
     refine Zb4 Tryz.func11 rfl Tryz.ntmps11 rfl fun w0 F0 out => ?_
     (repeat' (first | (apply Zbb 1; refine Stop.out ?_) | refine Za8 ?_ | refine Za1 ?_ | refine Za6 ?_ | (apply Za9; (exact Za2 rfl); exact rfl) | (apply Zah; exact rfl; (apply Zc3; refine Zby rfl ?_; intro _))))
     refine ⟨Zbh (Zcd (k := 0) (t := 2) rfl rfl) ?_⟩
     (repeat' (first | refine Za8 ?_ | refine Za1 ?_ | refine Za6 ?_ | (apply Za9; (first | exact Za3 rfl | exact Za2 rfl | exact Zav (b := true) rfl (fun _ => rfl) (fun e => by cases e) | exact Zav (b := false) rfl (fun e => by cases e) (fun _ => rfl) | (apply Za7; exact Zb3 rfl rfl) | (apply Zaf; first | exact Zaw rfl rfl | exact Zc0 rfl rfl)); exact rfl) | (refine Zbs rfl rfl rfl rfl rfl ?_) | (apply Zbr; exact rfl; exact rfl; exact rfl; (first | exact Za3 rfl | (apply Za7; exact Zau rfl rfl) | (apply Zar; exact Zat rfl rfl rfl) | (apply Zaf; exact Zck rfl rfl) | (apply Zax; exact Zaz rfl rfl)); exact rfl) | refine Zag ?_ | refine Zaq ?_ | refine Zb7 rfl ?_ | refine Zb8 rfl ?_ | (apply Zah; exact rfl; (apply Zan; (refine Zay Tryz.func9 rfl hrck rfl ?_; rintro _ _ ⟨rfl, rfl⟩))) | (refine Zbk rfl rfl (fun hb => ?_) (fun hb => ?_) <;> (repeat (first | replace hb := Zam hb | replace hb := Zal hb)) <;> (try (exfalso; fail))) | (refine Zab rfl (fun hb => ?_) (fun hb => ?_) <;> (repeat (first | replace hb := Zam hb | replace hb := Zal hb)) <;> (try (exfalso; omega)))))
     all_goals (try (exfalso; first | contradiction | omega))
     all_goals (refine ⟨.inr rfl, retw (loc' := []) (ret2 rfl (.tmp rfl) (.tmp rfl) (List.nil_sublist _) ⟨rfl, rfl⟩) ?_ ⟨rfl, rfl⟩⟩)
     all_goals exact Ims.tup (.cons Im.nil (.cons (Im.refl _) .nil))
   · rw [if_neg h1]
     by_cases h2 : tie = -1
     · rw [if_pos h2]
       refine Zb4 Tryz.func11 rfl Tryz.ntmps11 rfl fun w0 F0 out => ?_
       (repeat' (first | (apply Zbb 1; refine Stop.out ?_) | refine Za8 ?_ | refine Za1 ?_ | refine Za6 ?_ | (apply Za9; (exact Za2 rfl); exact rfl) | (apply Zah; exact rfl; (apply Zc3; refine Zby rfl ?_; intro _))))
       refine ⟨Zbh (Zcd (k := 0) (t := 2) rfl rfl) ?_⟩
       (repeat' (first | refine Za8 ?_ | refine Za1 ?_ | refine Za6 ?_ | (apply Za9; (first | exact Za3 rfl | exact Za2 rfl | exact Zav (b := false) rfl (fun e => by cases e) (fun _ => rfl) | (apply Za7; exact Zb3 rfl rfl) | (apply Zaf; first | exact Zaw rfl rfl | exact Zcb rfl rfl | exact Zc0 rfl rfl)); exact rfl) | (apply Zbr; exact rfl; exact rfl; exact rfl; (first | exact Za3 rfl | (apply Za7; exact Zau rfl rfl) | (apply Zar; exact Zat rfl rfl rfl) | (apply Zaf; exact Zck rfl rfl) | (apply Zax; exact Zaz rfl rfl)); exact rfl) | refine Zag ?_ | refine Zaq ?_ | refine Zb8 rfl ?_ | (apply Zah; exact rfl; (apply Zan; (refine Zay Tryz.func9 rfl hrck rfl ?_; rintro _ _ ⟨rfl, rfl⟩))) | (refine Zbk rfl rfl (fun hb => ?_) (fun hb => ?_) <;> (repeat (first | replace hb := Zam hb | replace hb := Zal hb)) <;> (try (exfalso; omega))) | (refine Zab rfl (fun hb => ?_) (fun hb => ?_) <;> (repeat (first | replace hb := Zam hb | replace hb := Zal hb)) <;> (try (exfalso; first | contradiction | omega)))))
       all_goals (try (exfalso; first | contradiction | omega))
       all_goals (refine ⟨.inr rfl, retw (loc' := []) (ret2 rfl (.tmp rfl) (.tmp rfl) (List.nil_sublist _) ⟨rfl, rfl⟩) ?_ ⟨rfl, rfl⟩⟩)
       all_goals exact Ims.tup (.cons Im.nil (.cons (Im.refl _) .nil))
     · rw [if_neg h2]
       obtain ⟨t, rfl⟩ : ∃ t : Nat, tie = t := ⟨tie.toNat, by omega⟩
       have htl : t < r.ties.length := by omega
       rw [Int.toNat_natCast, keyF_len htl]
       have hexd := hex t htl
       refine Zb4 Tryz.func11 rfl Tryz.ntmps11 rfl fun w0 F0 out => ?_
       (repeat' (first | (apply Zbb 1; refine Stop.out ?_) | refine Za8 ?_ | refine Za1 ?_ | refine Za6 ?_ | (apply Za9; (exact Za2 rfl); exact rfl) | (apply Zah; exact rfl; (apply Zc3; refine Zby rfl ?_; intro _))))
       refine ⟨Zbh (Zcd (k := 0) (t := 2) rfl rfl) ?_⟩
       (repeat' (first | refine Za8 ?_ | refine Za1 ?_ | refine Za6 ?_ | (apply Za9; (first | exact Za3 rfl | exact Za2 rfl | exact Zav (b := false) rfl (fun e => by cases e) (fun _ => rfl) | (apply Za7; exact Zb3 rfl rfl) | (apply Zaf; first | exact Zaw rfl rfl | exact Zcb rfl rfl | exact Zc0 rfl rfl)); exact rfl) | (apply Zbr; exact rfl; exact rfl; exact rfl; (first | exact Za3 rfl | (apply Za7; exact Zau rfl rfl) | (apply Zar; exact Zat rfl rfl rfl) | (apply Zaf; exact Zck rfl rfl) | (apply Zax; exact Zaz rfl rfl)); exact rfl) | refine Zag ?_ | refine Zaq ?_ | refine Zb8 rfl ?_ | (apply Zah; exact rfl; (apply Zan; first | (refine Zay Tryz.func9 rfl hrck rfl ?_; rintro _ _ ⟨rfl, rfl⟩) | (refine Zay Tryz.func22 rfl hexd rfl ?_; rintro _ _ ⟨rfl, rfl⟩))) | (refine Zab rfl (fun hb => ?_) (fun hb => ?_) <;> (repeat (first | replace hb := Zam hb | replace hb := Zal hb)) <;> (try (exfalso; omega)))))
       all_goals (try (exfalso; first | contradiction | omega))
       exact ⟨.inr rfl, ret2 rfl (.tmp rfl) (.tmp rfl) (List.nil_sublist _) ⟨rfl, rfl⟩⟩
 · rw [if_pos he]
   generalize (r.check15 freeF).2 = e at hrck he ⊢
   unfold rul at *
   refine Zb4 Tryz.func11 rfl Tryz.ntmps11 rfl fun w0 F0 out => ?_
   (repeat' (first | (apply Zbb 1; refine Stop.out ?_) | refine Za8 ?_ | refine Za1 ?_ | refine Za6 ?_ | (apply Za9; (exact Za2 rfl); exact rfl) | (apply Zah; exact rfl; (apply Zc3; refine Zby rfl ?_; intro _))))
   refine ⟨Zbh (Zcd (k := 0) (t := 2) rfl rfl) ?_⟩
   (repeat' (first | refine Za8 ?_ | refine Za1 ?_ | refine Za6 ?_ | (apply Za9; (first | exact Za3 rfl | exact Za2 rfl | (apply Za7; exact Zb3 rfl rfl) | (apply Zaf; exact Zc0 rfl rfl)); exact rfl) | refine Zaq ?_ | (apply Zah; exact rfl; (apply Zan; (refine Zay Tryz.func9 rfl hrck rfl ?_; rintro _ _ ⟨rfl, rfl⟩))) | (refine Zab rfl (fun hb => ?_) (fun hb => ?_) <;> (repeat (first | replace hb := Zam hb | replace hb := Zal hb | replace hb := Zbt hb | replace hb := Zbu hb)) <;> (try (exfalso; contradiction)))))
   all_goals (try (exfalso; omega))
   refine ⟨.inr rfl, retw (loc' := []) (ret2 rfl (.tmp rfl) (.tmp rfl) (List.nil_sublist _) ⟨rfl, rfl⟩) ?_ ⟨rfl, rfl⟩⟩
   exact Ims.tup (.cons Im.nil (.cons (Im.refl _) .nil))
set_option maxHeartbeats 1000000 in
set_option maxRecDepth 100000 in
theorem rulesKeysSpec_any (kk : Nat) (r : RulesD) (tie : Int) : FnC Tryz.prog 4 [rul kk r, exI .i64 tie] [Tab] (fun p loc => p = exB true ∧ loc = []) := by
 have hfw := few15_any kk r
 by_cases hf : r.few15 = true
 · have hf14 := RulesD.few_of15 hf
   have hky := nKeys15_any kk r tie hf14
   have hrky := rkeys15_any kk r tie hf14
   rw [hf] at hfw
   generalize r.keys15 freeF tie = z at hky hrky
   obtain ⟨K, e⟩ := z
   have hsm := same15_any K K
   rw [decide_eq_true rfl] at hsm
   unfold rul at *
   refine Zb4 Tryz.func4 rfl Tryz.ntmps4 rfl fun w0 F0 out => ?_
   (repeat' (first | (apply Zbb 3; refine Stop.out ?_) | refine Za8 ?_ | refine Za1 ?_ | refine Za6 ?_ | (apply Za9; (first | exact Za2 rfl | (apply g_un; exact Zbj rfl)); exact rfl) | refine Zag ?_ | refine Zb8 rfl ?_ | (apply Zah; exact rfl; first | (apply Zan; (refine Zc2 (.dup 1 rfl rfl .nil) Tryz.func6 rfl sane15_any rfl ?_ (hH := Zcp); rintro _ _ ⟨rfl, rfl⟩)) | (apply Zc3; refine Zby rfl ?_; intro _))))
   refine ⟨Zbh (Zcd (k := 0) (t := 2) rfl rfl) ?_⟩
   (repeat' (first | refine Za8 ?_ | refine Za1 ?_ | refine Za6 ?_ | (apply Za9; (first | exact Za3 rfl | exact Za2 rfl | exact Zav (b := true) rfl (fun _ => rfl) (fun e => by cases e) | exact Zb5 rfl rfl | (apply Za7; exact Zb3 rfl rfl) | (apply g_un; exact Zbj rfl)); exact rfl) | (apply Zbr; exact rfl; exact rfl; exact rfl; (first | exact Za3 rfl | (apply Zaf; exact Zcb rfl rfl)); exact rfl) | refine Zag ?_ | refine Zaq ?_ | refine Zb8 rfl ?_ | (apply Zah; exact rfl; (apply Zan; first | (refine Zay Tryz.func7 rfl hfw rfl ?_; rintro _ _ ⟨rfl, rfl⟩) | (refine Zc2 (.dup 0 rfl rfl .nil) Tryz.func10 rfl hky rfl ?_ (hH := Zcp); rintro _ _ ⟨rfl, rfl⟩) | (refine Zay Tryz.func11 rfl hrky rfl ?_; rintro _ _ ⟨rfl, rfl⟩) | (refine Zay Tryz.func12 rfl hsm rfl ?_; rintro _ _ ⟨rfl, rfl⟩)))))
   all_goals (try (exfalso; omega))
   all_goals (refine ⟨.inr rfl, ret1 rfl (.tmp rfl) (List.nil_sublist _) ⟨congrArg exB ?_, rfl⟩⟩)
   all_goals exact decide_eq_true rfl
 · have hf' : r.few15 = false := by simpa using hf
   rw [hf'] at hfw
   unfold rul at *
   refine Zb4 Tryz.func4 rfl Tryz.ntmps4 rfl fun w0 F0 out => ?_
   (repeat' (first | (apply Zbb 3; refine Stop.out ?_) | refine Za8 ?_ | refine Za1 ?_ | refine Za6 ?_ | (apply Za9; (first | exact Za2 rfl | (apply g_un; exact Zbj rfl)); exact rfl) | refine Zag ?_ | refine Zb8 rfl ?_ | (apply Zah; exact rfl; first | (apply Zan; (refine Zc2 (.dup 1 rfl rfl .nil) Tryz.func6 rfl sane15_any rfl ?_ (hH := Zcp); rintro _ _ ⟨rfl, rfl⟩)) | (apply Zc3; refine Zby rfl ?_; intro _))))
   refine ⟨Zbh (Zcd (k := 0) (t := 2) rfl rfl) ?_⟩
   (repeat' (first | refine Za8 ?_ | refine Za1 ?_ | refine Za6 ?_ | (apply Za9; (first | exact Za2 rfl | (apply Za7; exact Zb3 rfl rfl) | (apply g_un; exact Zbj rfl)); exact rfl) | refine Zaq ?_ | refine Zb7 rfl ?_ | (apply Zah; exact rfl; (apply Zan; (refine Zay Tryz.func7 rfl hfw rfl ?_; rintro _ _ ⟨rfl, rfl⟩)))))
   exact ⟨.inr rfl, ret1 rfl (.tmp rfl) (List.nil_sublist _) ⟨rfl, rfl⟩⟩
end Go.Proofs.YthldagplhklbnaaGreatDoor
