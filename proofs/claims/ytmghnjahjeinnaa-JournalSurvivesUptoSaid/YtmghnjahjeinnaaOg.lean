/- JournalSurvives. -/
import Derived.Test.YtmghnjahjeinnaaNf
import Derived.Test.YtmghnjahjeinnaaRdc
namespace Go.Proofs.Ytmghnjahjeinnaa
open Go Go.RowKit Go.Kx Go.Fr
theorem same_self (o : List (List UInt8)) (h : o.length < 2 ^ 62) : FnC Try.prog 24 [isl (eSl eByte) o, isl (eSl eByte) o] [] (fun p loc => p = exB true ∧ loc = []) := by
  have := sameRec_any o o h h
  rwa [decide_eq_true rfl] at this
attribute [local irreducible] usedN secsN recordsR genF addF

set_option maxHeartbeats 8000000 in
set_option maxRecDepth 100000 in
theorem survives_any (sectors : UInt8) (script : List Cr) (hs : ∀ x ∈ script, SmallR x.recs) : FnC Try.prog 9 [exI .u8 sectors.toNat, isl eCr script] [] (fun p loc => p = exB true ∧ loc = []) := by
  refine FnC_enter Try.func9 rfl Try.ntmps9 rfl fun w0 F0 out => ?_
  have hsl := sectors.toNat_lt
  have hN := new_fr ((sectors.toNat % 30 : Nat) + 1 : Int)
  rw [show newF ((sectors.toNat % 30 : Nat) + 1 : Int) = (newD (sectors.toNat % 30 + 1), 0) from newF_eq (n := sectors.toNat % 30 + 1) (by omega) (by omega)] at hN
  have hI0 := inv_new (N := sectors.toNat % 30 + 1) (by omega) (by omega)
  generalize hNN : sectors.toNat % 30 + 1 = N at *
  generalize newD N = D0 at *
  by_cases hlen : script.length ≤ 8
  · (repeat' (first | refine WP_seq ?_ | refine WP_region ?_ | refine WPL_nil ?_ | (apply WPL_t; (first | exact WT_move rfl | exact WT_assign rfl | exact WT_extract rfl rfl | (apply g_bin; first | exact WT_neq rfl rfl | exact WT_gtr rfl rfl | exact WT_add rfl rfl | exact WT_rem rfl rfl) | (apply g_conv; first | exact WT_conv rfl rfl rfl) | (apply g_call; first | exact WT_len rfl rfl) | (apply g_un; first | exact WT_not rfl)); exact rfl) | refine WP_block ?_ | refine WP_skip ?_ | refine WP_cond_f rfl ?_ | (apply WPL_op0; exact rfl; first | (apply g_callf; first | (refine WO_call Try.func10 rfl sane_any rfl ?_; rintro _ _ ⟨rfl, rfl⟩) | (refine WO_call Try.func25 rfl hN rfl ?_; rintro _ _ ⟨rfl, rfl⟩)) | (apply g_alloc; refine WO_alloc ?_; intro _) | (apply g_store; first | refine WO_store (k := 0) (l0 := []) rfl rfl rfl ?_)) | (refine WP_cond rfl (fun hb => ?_) (fun hb => ?_) <;> (repeat (first | replace hb := dec_t hb | replace hb := dec_f hb)) <;> (try (exfalso; first | omega)))))
    all_goals (try (exfalso; omega))
    rename_i b5
    refine WP_loop (fun x : Nat × List (List UInt8) × Disk => ([(1, isl eCr script), (4, exB false), (5, ex (.pointer (some ⟨b5, 0, none⟩))), (7, isl (eSl eByte) x.2.1), (38, isl eCr script), (39, exI .i64 script.length), (40, exI .i64 x.1)], [row b5 25 4 [isl (eSl eByte) x.2.2.secs, isl eWr x.2.2.pend, exI .i64 x.2.2.left, exB x.2.2.stopped]])) (fun x => x.1 ≤ script.length ∧ Inv N x.1 x.2.1 x.2.2) (fun x => script.length - x.1) (0, [], D0) ?_ ⟨Nat.zero_le _, hI0⟩ fun x hx => ?_
    · exact Leads.trans (LeadsS_nil (E := eSl eByte) (t := 7) rfl).leads (Leads_env (by repeat (first | exact sub_nil | refine sub_cons rfl ?_)) (List.Sublist.refl _))
    obtain ⟨i, kept, D⟩ := x
    obtain ⟨hi, hI⟩ := hx
    dsimp only at hi hI ⊢
    obtain ⟨hk30, hk40⟩ := hI.small
    have hn1 := hI.n1
    have hn30 := hI.n30
    have hO := open_any D
    rw [hI.opens] at hO
    have hK := same_self kept (by omega)
    by_cases hlt : i < script.length
    · have hsm := hs _ (List.getElem_mem hlt)
      have hF := few_any D script[i].recs (by have := hsm.many; omega) (by have := hsm.len; omega)
      by_cases hfw : fewF D script[i].recs = true
      · rw [hfw] at hF
        have hfew : manyF script[i].recs ≤ 4000 := by unfold fewF at hfw; simp only [Bool.and_eq_true, decide_eq_true_eq] at hfw; exact hfw.2.2
        have hrl := hsm.len
        have hrl2 : script[i].recs.length ≤ 4000 := Nat.le_trans (manyF_length _) hfew
        have hra := hsm.all
        (repeat' (first | (apply WPL_t; exact WT_indexC rfl rfl rfl; exact rfl) | (apply cuts_at 17; refine Stop.out ?_) | refine WP_seq ?_ | refine WP_region ?_ | refine WPL_nil ?_ | (apply WPL_t; (first | exact WT_move rfl | exact WT_assign rfl | exact WT_pick (b := true) rfl (fun _ => rfl) (fun e => by cases e) | exact WT_pick (b := false) rfl (fun e => by cases e) (fun _ => rfl) | exact WT_extract rfl rfl | (apply g_load; first | exact WT_load (k := 0) rfl rfl rfl rfl | exact WT_loadfa2 rfl rfl | exact WT_loada2 (k := 1) rfl rfl rfl) | (apply g_fld; first | exact WT_field rfl rfl rfl) | (apply g_bin; first | exact WT_lss rfl rfl | exact WT_neq rfl rfl) | (apply g_un; first | exact WT_not rfl)); exact rfl) | (refine WPL_off rfl rfl rfl rfl rfl ?_) | (apply WPL_gt; exact rfl; exact rfl; exact rfl; (first | exact WT_move rfl | (apply g_load; first | exact WT_load (k := 0) rfl rfl rfl rfl) | (apply g_fld; first | exact WT_field rfl rfl rfl) | (apply g_bin; first | exact WT_neq rfl rfl) | (apply g_call; first | exact WT_len rfl rfl) | (apply g_un; first | exact WT_not rfl)); exact rfl) | refine WP_block ?_ | refine WP_skip ?_ | refine WP_ret ?_ | refine WP_cond_t rfl ?_ | refine WP_cond_f rfl ?_ | (apply WPL_op0; exact rfl; first | (apply g_callf; first | (refine WO_call Try.func11 rfl hF rfl ?_; rintro _ _ ⟨rfl, rfl⟩) | (refine WO_call Try.func12 rfl hO rfl ?_; rintro _ _ ⟨rfl, rfl⟩)) | (apply g_alloc; refine WO_alloc ?_; intro _) | (apply g_store; first | refine WO_store (k := 0) (l0 := []) rfl rfl rfl ?_)) | (apply WPL_on0; exact rfl; exact rfl; exact rfl; exact rfl; (apply g_callf; first | (refine WO_call Try.func24 rfl hK rfl ?_; rintro _ _ ⟨rfl, rfl⟩))) | (refine WPL_case rfl rfl (fun hb => ?_) (fun hb => ?_) <;> (repeat (first | replace hb := dec_t hb | replace hb := dec_f hb | replace hb := not_t hb | replace hb := not_f hb)) <;> (try (exfalso; first | fail))) | (refine WP_cond rfl (fun hb => ?_) (fun hb => ?_) <;> (repeat (first | replace hb := dec_t hb | replace hb := dec_f hb)) <;> (try (exfalso; first | omega)))))
        all_goals (try (exfalso; first | omega | (dsimp only at hb; omega)))
        refine ⟨?_⟩
        rename_i b9 b10
        refine WP_seq ?_
        (repeat' (first | refine WP_seq ?_ | refine WP_region ?_ | refine WPL_nil ?_ | (apply WPL_t; (first | exact WT_move rfl | (apply g_load; first | exact WT_load (k := 1) rfl rfl rfl rfl) | (apply g_fld; first | exact WT_field rfl rfl rfl) | (apply g_call; first | exact WT_len rfl rfl)); exact rfl) | refine WP_block ?_))
        refine WP_loop (fun k : Nat => ([(1, isl eCr script), (4, exB false), (5, ex (.pointer (some ⟨b5, 0, none⟩))), (7, isl (eSl eByte) kept), (9, ex (.pointer (some ⟨b9, 0, none⟩))), (10, ex (.pointer (some ⟨b10, 0, none⟩))), (38, isl eCr script), (39, exI .i64 script.length), (40, exI .i64 i), (72, isl (eSl eByte) script[i].recs), (73, exI .i64 script[i].recs.length), (74, exI .i64 k)], [row b10 29 3 [isl (eSl eByte) (addF N kept.length kept (script[i].recs.take k)), exI .i64 N, exI .i64 kept.length], row b9 55 3 [isl (eSl eByte) script[i].recs, exB script[i].stop, exI .u8 script[i].left.toNat], row b5 25 4 [isl (eSl eByte) D.secs, isl eWr D.pend, exI .i64 D.left, exB D.stopped]])) (fun k => k ≤ script[i].recs.length) (fun k => script[i].recs.length - k) 0 ?_ (by omega) fun k hk => ?_
        · dsimp only
          rw [List.take_zero, show addF (N : Int) kept.length kept [] = kept by unfold addF; rfl]
          exact Leads_env (by repeat (first | exact sub_nil | refine sub_cons rfl ?_)) (List.Sublist.refl _)
        by_cases hklt : k < script[i].recs.length
        · have hcur := addF_len N kept.length (script[i].recs.take k) kept
          have hcall := addF_all (P := fun b => b.length < 2 ^ 40) (m := N) (s := kept.length) (script[i].recs.take k) kept hk40 (fun x hx => hra x (List.mem_of_mem_take hx))
          have hnext := addF_take N kept.length kept script[i].recs k hklt
          rw [List.length_take] at hcur
          have hbl := hra _ (List.getElem_mem hklt)
          generalize addF N kept.length kept (script[i].recs.take k) = cur at *
          have hA := append_any cur N kept.length script[i].recs[k] (by omega) hcall hbl
          rcases appF_cases cur N kept.length script[i].recs[k] with ⟨e1, e2⟩ | ⟨e, he, e1, e2⟩
          · rw [e1] at hA
            rw [e2] at hnext
            dsimp only at hA
            (repeat' (first | refine WP_seq ?_ | refine WP_region ?_ | refine WPL_nil ?_ | (apply WPL_t; (first | exact WT_move rfl | exact WT_assign rfl | exact WT_extract rfl rfl | (apply g_load; first | exact WT_loadf rfl rfl | exact WT_loada2 (k := 0) rfl rfl rfl) | (apply g_bin; first | exact WT_lss rfl rfl | exact WT_eql rfl rfl | exact WT_add rfl rfl) | (apply g_index; first | exact WT_index rfl rfl rfl)); exact rfl) | refine WP_block ?_ | refine WP_skip ?_ | refine WP_cond_t rfl ?_ | (apply WPL_op0; exact rfl; first | (apply g_callf; first | (refine WO_call Try.func15 rfl hA rfl ?_; rintro _ _ ⟨rfl, rfl⟩)) | (apply g_alloc; refine WO_alloc ?_; intro _) | (apply g_store; first | refine WO_store (k := 0) (l0 := []) rfl rfl rfl ?_ | refine WO_store (k := 1) (l0 := []) rfl rfl rfl ?_)) | (refine WP_cond rfl (fun hb => ?_) (fun hb => ?_) <;> (repeat (first | replace hb := dec_t hb | replace hb := dec_f hb)) <;> (try (exfalso; first | omega)))))
            refine ⟨k + 1, by omega, by omega, ?_⟩
            dsimp only
            rw [hnext]
            exact Leads_env (by repeat (first | exact sub_nil | refine sub_cons rfl ?_)) (List.sublist_cons_self _ _)
          · rw [e1] at hA
            rw [e2] at hnext
            dsimp only at hA
            (repeat' (first | refine WP_seq ?_ | refine WP_region ?_ | refine WPL_nil ?_ | (apply WPL_t; (first | exact WT_move rfl | exact WT_assign rfl | exact WT_extract rfl rfl | (apply g_load; first | exact WT_loadf rfl rfl | exact WT_loada2 (k := 0) rfl rfl rfl) | (apply g_bin; first | exact WT_lss rfl rfl | exact WT_eql rfl rfl | exact WT_add rfl rfl) | (apply g_index; first | exact WT_index rfl rfl rfl)); exact rfl) | refine WP_block ?_ | refine WP_skip ?_ | (apply WPL_op0; exact rfl; first | (apply g_callf; first | (refine WO_call Try.func15 rfl hA rfl ?_; rintro _ _ ⟨rfl, rfl⟩)) | (apply g_alloc; refine WO_alloc ?_; intro _) | (apply g_store; first | refine WO_store (k := 0) (l0 := []) rfl rfl rfl ?_)) | (refine WP_cond rfl (fun hb => ?_) (fun hb => ?_) <;> (repeat (first | replace hb := dec_t hb | replace hb := dec_f hb)) <;> (try (exfalso; first | omega)))))
            refine ⟨k + 1, by omega, by omega, ?_⟩
            dsimp only
            rw [hnext]
            exact Leads_env (by repeat (first | exact sub_nil | refine sub_cons rfl ?_)) (List.sublist_cons_self _ _)
        · have hk9 : k = script[i].recs.length := by omega
          subst hk9
          rw [List.take_length]
          have hLlen := addF_len N kept.length script[i].recs kept
          have hLall := addF_all (P := fun b => b.length < 2 ^ 40) (m := N) (s := kept.length) script[i].recs kept hk40 hra
          have hrp := fun D2 h => round_plain (D2 := D2) hI (by omega) script[i].recs h
          have hkL : kept.length ≤ (addF N kept.length kept script[i].recs).length := by
            obtain ⟨L, h1, h2, _⟩ := hrp D (.inl rfl)
            rw [h1]; exact h2
          generalize hL : addF N kept.length kept script[i].recs = L at *
          (repeat' (first | (apply cuts_at 26; refine Stop.out ?_) | refine WP_seq ?_ | refine WP_region ?_ | refine WPL_nil ?_ | (apply WPL_t; (first | exact WT_move rfl | (apply g_load; first | exact WT_load (k := 0) rfl rfl rfl rfl) | (apply g_fld; first | exact WT_field rfl rfl rfl) | (apply g_bin; first | exact WT_lss rfl rfl) | (apply g_call; first | exact WT_len rfl rfl)); exact rfl) | refine WP_skip ?_ | refine WP_exit ?_ | (refine WP_cond rfl (fun hb => ?_) (fun hb => ?_) <;> (repeat (first | replace hb := dec_t hb | replace hb := dec_f hb)) <;> (try (exfalso; first | omega)))))
          all_goals (try (exfalso; omega))
          refine ⟨?_⟩
          refine WP_cut (fun D2 : Disk => ([(1, isl eCr script), (4, exB false), (5, ex (.pointer (some ⟨b5, 0, none⟩))), (7, isl (eSl eByte) kept), (9, ex (.pointer (some ⟨b9, 0, none⟩))), (10, ex (.pointer (some ⟨b10, 0, none⟩))), (38, isl eCr script), (39, exI .i64 script.length), (40, exI .i64 i)], [row b10 29 3 [isl (eSl eByte) L, exI .i64 N, exI .i64 kept.length], row b9 55 3 [isl (eSl eByte) script[i].recs, exB script[i].stop, exI .u8 script[i].left.toNat], row b5 25 4 [isl (eSl eByte) D2.secs, isl eWr D2.pend, exI .i64 D2.left, exB D2.stopped]])) (fun D2 => D2 = D ∨ ((∃ x : Nat, x ≤ 65536 ∧ D2 = { D with left := (x : Int) }) ∧ script[i].stop = true)) ?_ fun D2 hD2 => ?_
          · generalize script[i].stop = st
            cases st
            · (repeat' (first | refine WP_seq ?_ | refine WP_region ?_ | refine WPL_nil ?_ | (apply WPL_t; (first | (apply g_load; first | exact WT_load (k := 1) rfl rfl rfl rfl) | (apply g_fld; first | exact WT_field rfl rfl rfl)); exact rfl) | refine WP_skip ?_ | refine WP_cond_f rfl ?_))
              exact cut_here D (.inl rfl) (Leads_env (by repeat (first | exact sub_nil | refine sub_cons rfl ?_)) (List.Sublist.refl _))
            · have hT := stop_fr D ((script[i].left.toNat % 40 : Nat) : Int) hI.din (by omega)
              rw [hI.stops _ (by omega)] at hT
              (repeat' (first | refine WP_seq ?_ | refine WP_region ?_ | refine WPL_nil ?_ | (apply WPL_t; (first | exact WT_move rfl | exact WT_assign rfl | exact WT_extract rfl rfl | (apply g_load; first | exact WT_load (k := 1) rfl rfl rfl rfl | exact WT_loada2 (k := 2) rfl rfl rfl) | (apply g_fld; first | exact WT_field rfl rfl rfl) | (apply g_bin; first | exact WT_neq rfl rfl | exact WT_rem rfl rfl) | (apply g_conv; first | exact WT_conv rfl rfl rfl)); exact rfl) | refine WP_skip ?_ | refine WP_cond_t rfl ?_ | refine WP_cond_f rfl ?_ | (apply WPL_op0; exact rfl; first | (apply g_callf; first | (refine WO_call Try.func29 rfl hT rfl ?_; rintro _ _ ⟨rfl, rfl⟩)) | (apply g_store; first | refine WO_store (k := 2) (l0 := []) rfl rfl rfl ?_))))
              all_goals (try (exfalso; omega))
              exact cut_here { D with left := ((script[i].left.toNat % 40 : Nat) : Int) } (.inr ⟨⟨_, by omega, rfl⟩, rfl⟩) (Leads_env (by repeat (first | exact sub_nil | refine sub_cons rfl ?_)) (List.Sublist.refl _))
          · have hD2' : D2 = D ∨ ∃ x : Nat, x ≤ 65536 ∧ D2 = { D with left := (x : Int) } := hD2.imp id fun h => h.1
            have hd2 : DIn D2 := by
              rcases hD2' with rfl | ⟨x, hx, rfl⟩
              · exact hI.din
              · constructor <;> dsimp only <;> omega
            obtain ⟨L', e1, hLk, hLu, hcase⟩ := hrp D2 hD2'
            rw [← e1] at hcase hLk hLu
            clear e1 L'
            have hJ := jsync_any L N kept.length D2 (by omega) hLall hd2
            have hE := same_self L (by omega)
            rcases hcase with ⟨D3, hj, hI3, hd3⟩ | ⟨secs, r, hne, hj, hr1, hr2, hI3⟩
            · rw [hj] at hJ
              have hR := restart_fr D3 hd3
              (repeat' (first | refine WP_seq ?_ | refine WP_region ?_ | refine WPL_nil ?_ | (apply WPL_t; (first | exact WT_move rfl | exact WT_assign rfl | exact WT_pick (b := true) rfl (fun _ => rfl) (fun e => by cases e) | exact WT_pick (b := false) rfl (fun e => by cases e) (fun _ => rfl) | exact WT_extract rfl rfl | (apply g_load; first | exact WT_load (k := 1) rfl rfl rfl rfl | exact WT_load (k := 2) rfl rfl rfl rfl | exact WT_loada2 (k := 0) rfl rfl rfl | exact WT_loada2 (k := 2) rfl rfl rfl) | (apply g_fld; first | exact WT_field rfl rfl rfl) | (apply g_bin; first | exact WT_eql rfl rfl | exact WT_neq rfl rfl | exact WT_add rfl rfl) | (apply g_call; first | exact WT_len rfl rfl)); exact rfl) | (refine WPL_off rfl rfl rfl rfl rfl ?_) | (apply WPL_gt; exact rfl; exact rfl; exact rfl; (first | (apply g_load; first | exact WT_load (k := 1) rfl rfl rfl rfl | exact WT_load (k := 2) rfl rfl rfl rfl) | (apply g_fld; first | exact WT_field rfl rfl rfl) | (apply g_un; first | exact WT_not rfl)); exact rfl) | refine WP_block ?_ | refine WP_skip ?_ | refine WP_ret ?_ | refine WP_cond_t rfl ?_ | refine WP_cond_f rfl ?_ | (apply WPL_op0; exact rfl; first | (apply g_callf; first | (refine WO_call Try.func21 rfl hJ rfl ?_; rintro _ _ ⟨rfl, rfl⟩) | (refine WO_call Try.func30 rfl hR rfl ?_; rintro _ _ ⟨rfl, rfl⟩)) | (apply g_alloc; refine WO_alloc ?_; intro _) | (apply g_store; first | refine WO_store (k := 0) (l0 := []) rfl rfl rfl ?_ | refine WO_store (k := 1) (l0 := []) rfl rfl rfl ?_ | refine WO_store (k := 4) (l0 := []) rfl rfl rfl ?_)) | (apply WPL_on0; exact rfl; exact rfl; exact rfl; exact rfl; (apply g_callf; first | (refine WO_call Try.func24 rfl hE rfl ?_; rintro _ _ ⟨rfl, rfl⟩))) | (refine WPL_case rfl rfl (fun hb => ?_) (fun hb => ?_) <;> (repeat (first | replace hb := dec_t hb | replace hb := dec_f hb | replace hb := not_t hb | replace hb := not_f hb)) <;> (try (exfalso; first | fail)))))
              all_goals (try (exfalso; first | omega | (dsimp only at hb; omega)))
              exact ⟨(i + 1, L, restartF D3), ⟨by dsimp only; omega, hI3⟩, by dsimp only; omega, Leads_env (by repeat (first | exact sub_nil | refine sub_cons rfl ?_)) (.cons _ (.cons _ (.cons _ (.cons _ (List.Sublist.refl _)))))⟩
            · rw [hj] at hJ
              have hst : script[i].stop = true := by
                rcases hD2 with rfl | h
                · exact absurd hI.left hne
                · exact h.2
              rw [hst]
              have hR := restart_fr ⟨secs, [], 0, true⟩ (by constructor <;> dsimp only <;> decide)
              have hOZ := open_any ⟨secs, [], -1, false⟩
              rw [hI3.opens] at hOZ
              have hlr : (L.take r).length = r := by rw [List.length_take]; omega
              have hE : FnC Try.prog 24 [isl (eSl eByte) (L.take r), isl (eSl eByte) (L.take (L.take r).length)] [] (fun p loc => p = exB true ∧ loc = []) := by
                rw [hlr]; exact same_self (L.take r) (by omega)
              rw [hlr] at hOZ
              (repeat' (first | refine WP_seq ?_ | refine WP_region ?_ | refine WPL_nil ?_ | (apply WPL_t; (first | exact WT_move rfl | exact WT_assign rfl | exact WT_extract rfl rfl | (apply g_load; first | exact WT_loada2 (k := 0) rfl rfl rfl | exact WT_loada2 (k := 2) rfl rfl rfl) | (apply g_bin; first | exact WT_eql rfl rfl)); exact rfl) | refine WP_block ?_ | refine WP_cond_t rfl ?_ | refine WP_cond_f rfl ?_ | (apply WPL_op0; exact rfl; first | (apply g_callf; first | (refine WO_call Try.func21 rfl hJ rfl ?_; rintro _ _ ⟨rfl, rfl⟩) | (refine WO_call Try.func30 rfl hR rfl ?_; rintro _ _ ⟨rfl, rfl⟩) | (refine WO_call Try.func12 rfl hOZ rfl ?_; rintro _ _ ⟨rfl, rfl⟩)) | (apply g_alloc; refine WO_alloc ?_; intro _) | (apply g_store; first | refine WO_store (k := 0) (l0 := []) rfl rfl rfl ?_ | refine WO_store (k := 1) (l0 := []) rfl rfl rfl ?_))))
              (refine WP_drawl 36 rfl ?_)
              all_goals ((apply WPY_pure 0 rfl (by decide +kernel) rfl (by repeat (first | exact np_ret)) guard_none; (first | (apply g_fld; first | exact WT_field rfl rfl rfl)); exact rfl))
              all_goals ((apply WPY_take 1 rfl (by decide +kernel) rfl (by decide +kernel) (by repeat (first | exact np_ret)) guard_none; (first | (apply g_load; first | exact WT_load (k := 4) rfl rfl rfl rfl)); exact rfl))
              all_goals ((apply WPY_pure 2 rfl (by decide +kernel) rfl (by repeat (first | exact np_ret)) guard_none; (first | (apply g_un; first | exact WT_not rfl)); exact rfl))
              all_goals ((apply WPY_pure 3 rfl (by decide +kernel) rfl (by repeat (first | exact np_ret)) guard_none; (first | exact WT_move rfl); exact rfl))
              all_goals (first | (refine WPY_case 144 rfl (fun hb => ?_) (fun hb => ?_) <;> (repeat (first | replace hb := dec_t hb | replace hb := dec_f hb | replace hb := not_t hb | replace hb := not_f hb)) <;> (try (exfalso; first | (cases hb; done) | omega))) | skip)
              all_goals (first | (apply WPY_pure 4 rfl (by decide +kernel) rfl (by repeat (first | exact np_ret)) (guard_some rfl rfl rfl); (first | exact WT_move rfl); exact rfl))
              all_goals (first | (apply WPY_pure 5 rfl (by decide +kernel) rfl (by repeat (first | exact np_ret)) (guard_some rfl rfl rfl); (first | (apply g_bin; first | exact WT_neq rfl rfl)); exact rfl))
              all_goals ((apply WPY_pure 6 rfl (by decide +kernel) rfl (by repeat (first | exact np_ret)) guard_none; (first | exact WT_pick (b := false) rfl (fun e => by cases e) (fun _ => rfl)); exact rfl))
              all_goals ((apply WPY_pure 7 rfl (by decide +kernel) rfl (by repeat (first | exact np_ret)) guard_none; (first | exact WT_move rfl); exact rfl))
              all_goals (first | (refine WPY_case 148 rfl (fun hb => ?_) (fun hb => ?_) <;> (repeat (first | replace hb := dec_t hb | replace hb := dec_f hb | replace hb := not_t hb | replace hb := not_f hb)) <;> (try (exfalso; first | (cases hb; done) | omega))) | skip)
              all_goals (first | (apply WPY_pure 8 rfl (by decide +kernel) rfl (by repeat (first | exact np_ret)) (guard_some rfl rfl rfl); (first | (apply g_fld; first | exact WT_field rfl rfl rfl)); exact rfl))
              all_goals (first | (apply WPY_take 9 rfl (by decide +kernel) rfl (by decide +kernel) (by repeat (first | exact np_ret)) (guard_some rfl rfl rfl); (first | (apply g_load; first | exact WT_load (k := 0) rfl rfl rfl rfl)); exact rfl))
              all_goals (first | (apply WPY_pure 10 rfl (by decide +kernel) rfl (by repeat (first | exact np_ret)) (guard_some rfl rfl rfl); (first | (apply g_call; first | exact WT_len rfl rfl)); exact rfl))
              all_goals (first | (apply WPY_pure 11 rfl (by decide +kernel) rfl (by repeat (first | exact np_ret)) (guard_some rfl rfl rfl); (first | exact WT_move rfl); exact rfl))
              all_goals (first | (apply WPY_pure 12 rfl (by decide +kernel) rfl (by repeat (first | exact np_ret)) (guard_some rfl rfl rfl); (first | (apply g_call; first | exact WT_len rfl rfl)); exact rfl))
              all_goals (first | (apply WPY_pure 13 rfl (by decide +kernel) rfl (by repeat (first | exact np_ret)) (guard_some rfl rfl rfl); (first | (apply g_bin; first | exact WT_lss rfl rfl)); exact rfl))
              all_goals ((apply WPY_pure 14 rfl (by decide +kernel) rfl (by repeat (first | exact np_ret)) guard_none; (first | exact WT_pick (b := false) rfl (fun e => by cases e) (fun _ => rfl)); exact rfl))
              all_goals ((apply WPY_pure 15 rfl (by decide +kernel) rfl (by repeat (first | exact np_ret)) guard_none; (first | exact WT_move rfl); exact rfl))
              all_goals (first | (refine WPY_case 156 rfl (fun hb => ?_) (fun hb => ?_) <;> (repeat (first | replace hb := dec_t hb | replace hb := dec_f hb | replace hb := not_t hb | replace hb := not_f hb)) <;> (try (exfalso; first | (cases hb; done) | omega))) | skip)
              all_goals (first | (refine WPY_off 16 rfl (by decide +kernel) rfl (by repeat (first | exact np_ret)) rfl rfl rfl rfl rfl ?_) | (apply WPY_pure 16 rfl (by decide +kernel) rfl (by repeat (first | exact np_ret)) (guard_some rfl rfl rfl); (first | (apply g_fld; first | exact WT_field rfl rfl rfl)); exact rfl))
              all_goals (first | (refine WPY_off 17 rfl (by decide +kernel) rfl (by repeat (first | exact np_ret)) rfl rfl rfl rfl rfl ?_) | (apply WPY_take 17 rfl (by decide +kernel) rfl (by decide +kernel) (by repeat (first | exact np_ret)) (guard_some rfl rfl rfl); (first | (apply g_load; first | exact WT_load (k := 0) rfl rfl rfl rfl)); exact rfl))
              all_goals (first | (refine WPY_off 18 rfl (by decide +kernel) rfl (by repeat (first | exact np_ret)) rfl rfl rfl rfl rfl ?_) | (apply WPY_pure 18 rfl (by decide +kernel) rfl (by repeat (first | exact np_ret)) (guard_some rfl rfl rfl); (first | (apply g_call; first | exact WT_len rfl rfl)); exact rfl))
              all_goals (first | (refine WPY_off 19 rfl (by decide +kernel) rfl (by repeat (first | exact np_ret)) rfl rfl rfl rfl rfl ?_) | (apply WPY_pure 19 rfl (by decide +kernel) rfl (by repeat (first | exact np_ret)) (guard_some rfl rfl rfl); (first | (apply g_fld; first | exact WT_field rfl rfl rfl)); exact rfl))
              all_goals (first | (refine WPY_off 20 rfl (by decide +kernel) rfl (by repeat (first | exact np_ret)) rfl rfl rfl rfl rfl ?_) | (apply WPY_take 20 rfl (by decide +kernel) rfl (by decide +kernel) (by repeat (first | exact np_ret)) (guard_some rfl rfl rfl); (first | (apply g_load; first | exact WT_load (k := 3) rfl rfl rfl rfl)); exact rfl))
              all_goals (first | (refine WPY_off 21 rfl (by decide +kernel) rfl (by repeat (first | exact np_ret)) rfl rfl rfl rfl rfl ?_) | (apply WPY_pure 21 rfl (by decide +kernel) rfl (by repeat (first | exact np_ret)) (guard_some rfl rfl rfl); (first | (apply g_call; first | exact WT_len rfl rfl)); exact rfl))
              all_goals (first | (refine WPY_off 22 rfl (by decide +kernel) rfl (by repeat (first | exact np_ret)) rfl rfl rfl rfl rfl ?_) | (apply WPY_pure 22 rfl (by decide +kernel) rfl (by repeat (first | exact np_ret)) (guard_some rfl rfl rfl); (first | (apply g_bin; first | exact WT_gtr rfl rfl)); exact rfl))
              all_goals ((apply WPY_pure 23 rfl (by decide +kernel) rfl (by repeat (first | exact np_ret)) guard_none; (first | exact WT_pick (b := true) rfl (fun _ => rfl) (fun e => by cases e) | exact WT_pick (b := false) rfl (fun e => by cases e) (fun _ => rfl)); exact rfl))
              all_goals ((apply WPY_pure 24 rfl (by decide +kernel) rfl (by repeat (first | exact np_ret)) guard_none; (first | exact WT_move rfl); exact rfl))
              all_goals (first | (refine WPY_case 165 rfl (fun hb => ?_) (fun hb => ?_) <;> (repeat (first | replace hb := dec_t hb | replace hb := dec_f hb | replace hb := not_t hb | replace hb := not_f hb)) <;> (try (exfalso; first | (cases hb; done) | omega))) | skip)
              all_goals (first | (refine WPY_off 25 rfl (by decide +kernel) rfl (by repeat (first | exact np_ret)) rfl rfl rfl rfl rfl ?_) | (apply WPY_pure 25 rfl (by decide +kernel) rfl (by repeat (first | exact np_ret)) (guard_some rfl rfl rfl); (first | (apply g_fld; first | exact WT_field rfl rfl rfl)); exact rfl))
              all_goals (first | (refine WPY_off 26 rfl (by decide +kernel) rfl (by repeat (first | exact np_ret)) rfl rfl rfl rfl rfl ?_) | (apply WPY_take 26 rfl (by decide +kernel) rfl (by decide +kernel) (by repeat (first | exact np_ret)) (guard_some rfl rfl rfl); (first | (apply g_load; first | exact WT_load (k := 0) rfl rfl rfl rfl)); exact rfl))
              all_goals (first | (refine WPY_off 27 rfl (by decide +kernel) rfl (by repeat (first | exact np_ret)) rfl rfl rfl rfl rfl ?_) | (apply WPY_pure 27 rfl (by decide +kernel) rfl (by repeat (first | exact np_ret)) (guard_some rfl rfl rfl); (first | (apply g_fld; first | exact WT_field rfl rfl rfl)); exact rfl))
              all_goals (first | (refine WPY_off 28 rfl (by decide +kernel) rfl (by repeat (first | exact np_ret)) rfl rfl rfl rfl rfl ?_) | (apply WPY_take 28 rfl (by decide +kernel) rfl (by decide +kernel) (by repeat (first | exact np_ret)) (guard_some rfl rfl rfl); (first | (apply g_load; first | exact WT_load (k := 3) rfl rfl rfl rfl)); exact rfl))
              all_goals (first | (refine WPY_off 29 rfl (by decide +kernel) rfl (by repeat (first | exact np_ret)) rfl rfl rfl rfl rfl ?_) | (apply WPY_pure 29 rfl (by decide +kernel) rfl (by repeat (first | exact np_ret)) (guard_some rfl rfl rfl); (first | (apply g_fld; first | exact WT_field rfl rfl rfl)); exact rfl))
              all_goals (first | (refine WPY_off 30 rfl (by decide +kernel) rfl (by repeat (first | exact np_ret)) rfl rfl rfl rfl rfl ?_) | (apply WPY_take 30 rfl (by decide +kernel) rfl (by decide +kernel) (by repeat (first | exact np_ret)) (guard_some rfl rfl rfl); (first | (apply g_load; first | exact WT_load (k := 0) rfl rfl rfl rfl)); exact rfl))
              all_goals (first | (refine WPY_off 31 rfl (by decide +kernel) rfl (by repeat (first | exact np_ret)) rfl rfl rfl rfl rfl ?_) | (apply WPY_pure 31 rfl (by decide +kernel) rfl (by repeat (first | exact np_ret)) (guard_some rfl rfl rfl); (first | (apply g_call; first | exact WT_len rfl rfl)); exact rfl))
              all_goals (first | (refine WPY_off 32 rfl (by decide +kernel) rfl (by repeat (first | exact np_ret)) rfl rfl rfl rfl rfl ?_) | (apply WPY_pure 32 rfl (by decide +kernel) rfl (by repeat (first | exact np_ret)) (guard_some rfl rfl rfl); (first | (apply g_slice; first | exact WT_slch rfl rfl rfl)); exact rfl))
              all_goals (first | (refine WPY_off 33 rfl (by decide +kernel) rfl (by repeat (first | exact np_ret)) rfl rfl rfl rfl rfl ?_) | (apply WPY_one 33; exact (by decide +kernel); exact rfl; exact (guard_some rfl rfl rfl); exact (fun _ _ h => h); first | (apply g_callf; first | (refine WO_call Try.func24 rfl hE rfl ?_; rintro _ _ ⟨rfl, rfl⟩))))
              all_goals (first | (refine WPY_off 34 rfl (by decide +kernel) rfl (by repeat (first | exact np_ret)) rfl rfl rfl rfl rfl ?_) | (apply WPY_pure 34 rfl (by decide +kernel) rfl (by repeat (first | exact np_ret)) (guard_some rfl rfl rfl); (first | (apply g_un; first | exact WT_not rfl)); exact rfl))
              all_goals ((apply WPY_pure 35 rfl (by decide +kernel) rfl (by repeat (first | exact np_ret)) guard_none; (first | exact WT_pick (b := true) rfl (fun _ => rfl) (fun e => by cases e) | exact WT_pick (b := false) rfl (fun e => by cases e) (fun _ => rfl)); exact rfl))
              all_goals (refine WPY_done (by decide +kernel) ?_)
              all_goals (try (exfalso; first | omega | (dsimp only at *; omega)))
              all_goals ((repeat' (first | refine WP_region ?_ | refine WPL_nil ?_ | (apply WPL_t; (first | exact WT_move rfl | exact WT_assign rfl | (apply g_load; first | exact WT_load (k := 0) rfl rfl rfl rfl | exact WT_loada2 (k := 1) rfl rfl rfl) | (apply g_fld; first | exact WT_field rfl rfl rfl) | (apply g_bin; first | exact WT_add rfl rfl)); exact rfl) | refine WP_skip ?_ | refine WP_cond_f rfl ?_ | (apply WPL_op0; exact rfl; first | (apply g_callf; first | (refine WO_call Try.func30 rfl hR rfl ?_; rintro _ _ ⟨rfl, rfl⟩)) | (apply g_store; first | refine WO_store (k := 5) (l0 := []) rfl rfl rfl ?_)))))
              all_goals (try (exfalso; first | omega | (dsimp only at *; omega)))
              all_goals (exact ⟨(i + 1, L.take r, ⟨secs, [], -1, false⟩), ⟨by dsimp only; omega, hI3⟩, by dsimp only; omega, Leads_env (by repeat (first | exact sub_nil | refine sub_cons rfl ?_)) (.cons _ (.cons _ (.cons _ (.cons _ (.cons _ (List.Sublist.refl _))))))⟩)
      · have hfw' : fewF D script[i].recs = false := by simpa using hfw
        rw [hfw'] at hF
        (repeat' (first | (apply WPL_t; exact WT_indexC rfl rfl rfl; exact rfl) | refine WP_seq ?_ | refine WP_region ?_ | refine WPL_nil ?_ | (apply WPL_t; (first | exact WT_assign rfl | (apply g_load; first | exact WT_load (k := 0) rfl rfl rfl rfl | exact WT_loadfa2 rfl rfl | exact WT_loada2 (k := 1) rfl rfl rfl) | (apply g_fld; first | exact WT_field rfl rfl rfl) | (apply g_bin; first | exact WT_lss rfl rfl) | (apply g_un; first | exact WT_not rfl)); exact rfl) | refine WP_block ?_ | refine WP_skip ?_ | refine WP_ret ?_ | refine WP_cond_t rfl ?_ | (apply WPL_op0; exact rfl; first | (apply g_callf; first | (refine WO_call Try.func11 rfl hF rfl ?_; rintro _ _ ⟨rfl, rfl⟩)) | (apply g_alloc; refine WO_alloc ?_; intro _) | (apply g_store; first | refine WO_store (k := 0) (l0 := []) rfl rfl rfl ?_)) | (refine WP_cond rfl (fun hb => ?_) (fun hb => ?_) <;> (repeat (first | replace hb := dec_t hb | replace hb := dec_f hb)) <;> (try (exfalso; first | omega)))))
        exact ⟨.inr rfl, ret1 rfl (.tmp rfl) (List.nil_sublist _) ⟨rfl, rfl⟩⟩
    · (repeat' (first | refine WP_seq ?_ | refine WP_region ?_ | refine WPL_nil ?_ | (apply WPL_t; (first | exact WT_move rfl | exact WT_assign rfl | exact WT_pick (b := true) rfl (fun _ => rfl) (fun e => by cases e) | exact WT_extract rfl rfl | (apply g_load; first | exact WT_loada2 (k := 0) rfl rfl rfl) | (apply g_bin; first | exact WT_lss rfl rfl | exact WT_eql rfl rfl)); exact rfl) | (apply WPL_gt; exact rfl; exact rfl; exact rfl; (first | exact WT_move rfl | (apply g_load; first | exact WT_load (k := 0) rfl rfl rfl rfl) | (apply g_fld; first | exact WT_field rfl rfl rfl)); exact rfl) | refine WP_ret ?_ | refine WP_exit ?_ | (apply WPL_op0; exact rfl; first | (apply g_callf; first | (refine WO_call Try.func12 rfl hO rfl ?_; rintro _ _ ⟨rfl, rfl⟩)) | (apply g_alloc; refine WO_alloc ?_; intro _) | (apply g_store; first | refine WO_store (k := 0) (l0 := []) rfl rfl rfl ?_)) | (apply WPL_on0; exact rfl; exact rfl; exact rfl; exact rfl; (apply g_callf; first | (refine WO_call Try.func24 rfl hK rfl ?_; rintro _ _ ⟨rfl, rfl⟩))) | (refine WP_cond rfl (fun hb => ?_) (fun hb => ?_) <;> (repeat (first | replace hb := dec_t hb | replace hb := dec_f hb)) <;> (try (exfalso; first | omega)))))
      exact ⟨.inr rfl, ret1 rfl (.tmp rfl) (List.nil_sublist _) ⟨rfl, rfl⟩⟩
  · (repeat' (first | refine WP_seq ?_ | refine WP_region ?_ | refine WPL_nil ?_ | (apply WPL_t; (first | exact WT_move rfl | exact WT_assign rfl | (apply g_bin; first | exact WT_gtr rfl rfl) | (apply g_call; first | exact WT_len rfl rfl) | (apply g_un; first | exact WT_not rfl)); exact rfl) | refine WP_skip ?_ | refine WP_ret ?_ | refine WP_cond_f rfl ?_ | (apply WPL_op0; exact rfl; first | (apply g_callf; first | (refine WO_call Try.func10 rfl sane_any rfl ?_; rintro _ _ ⟨rfl, rfl⟩))) | (refine WP_cond rfl (fun hb => ?_) (fun hb => ?_) <;> (repeat (first | replace hb := dec_t hb | replace hb := dec_f hb)) <;> (try (exfalso; first | omega)))))
    all_goals (try (exfalso; omega))
    all_goals (exact ⟨.inr rfl, ret1 rfl (.tmp rfl) (List.nil_sublist _) ⟨rfl, rfl⟩⟩)

theorem survives_run (W : World) (sectors : UInt8) (a1 : Option Addr) (n1 c1 : Nat) (script : List Cr) (h1 : Sl eCr (fun _ => True) W a1 n1 c1 script) (s1 : ∀ x ∈ script, SmallR x.recs) :
    Calls Try.prog 9 #[.int .u8 sectors.toNat, .slice a1 n1 c1] W fun e w' => e = .returned (.bool true) ∧ Below W.heap.size W w' :=
  law_of (survives_any sectors script s1) (.cons rfl (.cons ⟨a1, n1, c1, rfl, h1⟩ .nil))

end Go.Proofs.Ytmghnjahjeinnaa
