/- JournalDamage. -/
import Derived.Test.YtmghnjahjeinnaaNe
import Derived.Test.YtmghnjahjeinnaaFw
namespace Go.Proofs.Ytmghnjahjeinnaa
open Go Go.RowKit Go.Kx Go.Fr

/-- Where the records end. -/
def endsA : Nat → List (List UInt8) → List Nat
  | _, [] => []
  | a, b :: r => (a + secsN b.length) :: endsA (a + secsN b.length) r
theorem endsA_len : ∀ (a : Nat) (o : List (List UInt8)), (endsA a o).length = o.length
  | _, [] => rfl
  | a, b :: r => by simp [endsA, endsA_len]
theorem endsA_snoc : ∀ (a : Nat) (o : List (List UInt8)) (b : List UInt8), endsA a (o ++ [b]) = endsA a o ++ [a + usedN o + secsN b.length]
  | a, [], b => by simp [endsA, usedN]
  | a, x :: r, b => by
    simp only [List.cons_append, endsA, endsA_snoc, usedN, List.map_cons, List.sum_cons]
    simp [Nat.add_assoc]
theorem endsA_get : ∀ (a : Nat) (o : List (List UInt8)) (i : Nat), i < o.length → (endsA a o)[i]? = some (a + usedN (o.take (i + 1)))
  | a, [], i, h => by simp at h
  | a, b :: r, 0, _ => by simp [endsA, usedN]
  | a, b :: r, i + 1, h => by
    simp only [endsA, List.getElem?_cons_succ]
    rw [endsA_get _ r i (by simpa using h)]
    simp [usedN, Nat.add_assoc]
abbrev endsN (o : List (List UInt8)) : List Nat := endsA 0 o
theorem endsN_get {o : List (List UInt8)} {i : Nat} (h : i < o.length) (h2 : i < (endsN o).length) : (endsN o)[i] = usedN (o.take (i + 1)) := by
  have := endsA_get 0 o i h
  rw [List.getElem?_eq_getElem h2, Nat.zero_add] at this
  exact Option.some.inj this
theorem manyF_bd {o : List (List UInt8)} {n : Nat} (h : manyF o ≤ n) : o.length ≤ n ∧ ∀ b ∈ o, b.length ≤ n :=
  ⟨Nat.le_trans (manyF_length o) h, fun b hb => by have := manyF_mem hb; omega⟩
attribute [local irreducible] usedN secsN recordsR endsA genF

set_option maxHeartbeats 8000000 in
set_option maxRecDepth 100000 in
theorem damage_any (r : List (List UInt8)) (sector at_ : Int) (by_ : UInt8) (hr : SmallR r) (hs1 : -9223372036854775808 ≤ sector ∧ sector ≤ 9223372036854775807) (hs2 : -9223372036854775808 ≤ at_ ∧ at_ ≤ 9223372036854775807) : FnC Try.prog 7 [isl (eSl eByte) r, exI .i64 sector, exI .i64 at_, exI .u8 by_.toNat] [] (fun p loc => p = exB true ∧ loc = []) := by
  refine FnC_enter Try.func7 rfl Try.ntmps7 rfl fun w0 F0 out => ?_
  have q1 := hr.many
  have hN := new_fr 40
  rw [show newF 40 = (newD 40, 0) from newF_eq (n := 40) (by decide) (by decide)] at hN
  have hF := few_any (newD 40) r (by omega) (by have := hr.len; omega)
  obtain ⟨hG, hr0, hnb⟩ := newD_good (n := 40) (by decide) (by decide)
  have hl40 : (newD 40).secs.length = 40 := by simp [newD]
  have hg0 := hnb.genF hG.all.1
  have hlf : (newD 40).left = -1 := rfl
  generalize newD 40 = D0 at *
  have hO0 := open_any D0
  rw [open_good hG, hr0, hl40] at hO0
  by_cases hfw : fewF D0 r = true ∧ r ≠ [] ∧ by_ ≠ 0
  · obtain ⟨hfw, hrn, hby⟩ := hfw
    have hfew : manyF r ≤ 4000 := by unfold fewF at hfw; simp only [Bool.and_eq_true, decide_eq_true_eq] at hfw; exact hfw.2.2
    rw [hfw] at hF
    have r1 := manyF_bd (o := r) (n := 4000) hfew
    have r1' : ∀ x ∈ r, x.length < 2 ^ 40 := fun x hx => by have := r1.2 x hx; omega
    have hrl : 0 < r.length := by rcases r with _ | ⟨x, t⟩; exact absurd rfl hrn; simp
    have hbn : ¬ ((by_.toNat : Int) = 0) := fun e => hby (UInt8.toNat_inj.1 (by have : by_.toNat = 0 := by omega
                                                                                rw [this]; rfl))
    have hj0 : jOK (r.take 0) 40 0 := by rw [List.take_zero]; exact ⟨by decide, by decide, by decide, by decide, by simp [usedN]⟩
    (repeat' (first | (apply cuts_at 10; refine Stop.out ?_) | refine WP_seq ?_ | refine WP_region ?_ | refine WPL_nil ?_ | (apply WPL_t; (first | exact WT_move rfl | exact WT_assign rfl | exact WT_pick (b := false) rfl (fun e => by cases e) (fun _ => rfl) | exact WT_extract rfl rfl | (apply g_load; first | exact WT_loada2 (k := 0) rfl rfl rfl) | (apply g_bin; first | exact WT_neq rfl rfl) | (apply g_un; first | exact WT_not rfl)); exact rfl) | (apply WPL_gt; exact rfl; exact rfl; exact rfl; (first | exact WT_move rfl | (apply g_load; first | exact WT_loada2 (k := 0) rfl rfl rfl) | (apply g_bin; first | exact WT_eql rfl rfl) | (apply g_call; first | exact WT_len rfl rfl) | (apply g_un; first | exact WT_not rfl)); exact rfl) | refine WP_skip ?_ | refine WP_cond_f rfl ?_ | (apply WPL_op0; exact rfl; first | (apply g_callf; first | (refine WO_call Try.func10 rfl sane_any rfl ?_; rintro _ _ ⟨rfl, rfl⟩) | (refine WO_call Try.func25 rfl hN rfl ?_; rintro _ _ ⟨rfl, rfl⟩) | (refine WO_call Try.func12 rfl hO0 rfl ?_; rintro _ _ ⟨rfl, rfl⟩)) | (apply g_alloc; refine WO_alloc ?_; intro _) | (apply g_store; first | refine WO_store (k := 0) (l0 := []) rfl rfl rfl ?_)) | (apply WPL_on0; exact rfl; exact rfl; exact rfl; exact rfl; (apply g_callf; first | (refine WO_call Try.func11 rfl hF rfl ?_; rintro _ _ ⟨rfl, rfl⟩))) | (refine WPL_case rfl rfl (fun hb => ?_) (fun hb => ?_) <;> (repeat (first | replace hb := dec_t hb | replace hb := dec_f hb)) <;> (try (exfalso; first | omega))) | (refine WP_cond rfl (fun hb => ?_) (fun hb => ?_) <;> (repeat (first | replace hb := dec_t hb | replace hb := dec_f hb)) <;> (try (exfalso; first | omega)))))
    all_goals (try (exfalso; first | omega | (simp_all; done)))
    refine ⟨?_⟩
    rename_i b9 _ b11
    refine WP_cut (fun x : Nat × Value => ([(0, isl (eSl eByte) r), (1, exI .i64 sector), (2, exI .i64 at_), (3, exI .u8 by_.toNat), (8, exB false), (9, ex (.pointer (some ⟨b9, 0, none⟩))), (11, ex (.pointer (some ⟨b11, 0, none⟩))), (13, ex x.2)], [vec x.2 3 1 x.1 ((endsN (r.take x.1)).map nV), row b11 29 3 [isl (eSl eByte) (r.take x.1), exI .i64 40, exI .i64 0], row b9 25 4 [isl (eSl eByte) D0.secs, isl eWr D0.pend, exI .i64 D0.left, exB D0.stopped]])) (fun x => x.1 ≤ r.length ∧ jOK (r.take x.1) 40 0) ?_ fun x hx => ?_
    · refine WP_leads (LeadsS_vec_nil (T := 3) (sz := 1)).leads ?_
      refine WP_seq ?_
      (repeat' (first | refine WP_region ?_ | refine WPL_nil ?_ | (apply WPL_t; (first | exact WT_move rfl | (apply g_call; first | exact WT_len rfl rfl)); exact rfl) | refine WP_block ?_))
      refine WP_loop (fun x : Nat × Value => ([(0, isl (eSl eByte) r), (1, exI .i64 sector), (2, exI .i64 at_), (3, exI .u8 by_.toNat), (8, exB false), (9, ex (.pointer (some ⟨b9, 0, none⟩))), (11, ex (.pointer (some ⟨b11, 0, none⟩))), (13, ex x.2), (60, isl (eSl eByte) r), (61, exI .i64 r.length), (62, exI .i64 x.1)], [vec x.2 3 1 x.1 ((endsN (r.take x.1)).map nV), row b11 29 3 [isl (eSl eByte) (r.take x.1), exI .i64 40, exI .i64 0], row b9 25 4 [isl (eSl eByte) D0.secs, isl eWr D0.pend, exI .i64 D0.left, exB D0.stopped]])) (fun x => x.1 ≤ r.length ∧ jOK (r.take x.1) 40 0) (fun x => r.length - x.1) (0, .slice none 0 0) ?_ ⟨Nat.zero_le _, hj0⟩ fun x hx => ?_
      · dsimp only
        rw [List.take_zero, show (endsN ([] : List (List UInt8))).map nV = [] by unfold endsN; rw [endsA]; rfl]
        exact Leads_env (by repeat (first | exact sub_nil | refine sub_cons rfl ?_)) (List.Sublist.refl _)
      obtain ⟨k, v⟩ := x
      obtain ⟨hk, hjk⟩ := hx
      dsimp only at hk hjk ⊢
      by_cases hlt : k < r.length
      · have hA := append_any (r.take k) 40 0 r[k] (by rw [List.length_take]; omega) (fun x hx => r1' x (List.mem_of_mem_take hx)) (r1' _ (List.getElem_mem hlt))
        have hbl := r1.2 _ (List.getElem_mem hlt)
        rcases appF_cases (r.take k) 40 0 r[k] with ⟨e1, e2⟩ | ⟨e, he, e1, _⟩
        · rw [e1] at hA
          dsimp only at hA
          have hjn := addS_ok (b := r[k]) hjk
          rw [e2] at hjn
          have hun : usedN (r.take k) ≤ 40 := by have := hjk.2.2.2.2; omega
          rw [← List.take_succ_eq_append_getElem hlt] at hA hjn
          have hsn := endsA_snoc 0 (r.take k) r[k]
          rw [← List.take_succ_eq_append_getElem hlt, Nat.zero_add] at hsn
          (repeat' (first | (apply cut_at 16; refine Stop.out ?_) | refine WP_seq ?_ | refine WP_region ?_ | refine WPL_nil ?_ | (apply WPL_t; (first | exact WT_move rfl | exact WT_assign rfl | exact WT_extract rfl rfl | (apply g_load; first | exact WT_loadf rfl rfl | exact WT_loada2 (k := 0) rfl rfl rfl | exact WT_loada2 (k := 1) rfl rfl rfl) | (apply g_bin; first | exact WT_lss rfl rfl | exact WT_neq rfl rfl) | (apply g_index; first | exact WT_index rfl rfl rfl)); exact rfl) | refine WP_block ?_ | refine WP_skip ?_ | refine WP_cond_f rfl ?_ | (apply WPL_op0; exact rfl; first | (apply g_callf; first | (refine WO_call Try.func15 rfl hA rfl ?_; rintro _ _ ⟨rfl, rfl⟩)) | (apply g_alloc; refine WO_alloc ?_; intro _) | (apply g_store; first | refine WO_store (k := 0) (l0 := []) rfl rfl rfl ?_ | refine WO_store (k := 2) (l0 := []) rfl rfl rfl ?_)) | (refine WP_cond rfl (fun hb => ?_) (fun hb => ?_) <;> (repeat (first | replace hb := dec_t hb | replace hb := dec_f hb)) <;> (try (exfalso; first | omega)))))
          refine ⟨?_⟩
          by_cases hk0 : k = 0
          · subst hk0
            (repeat' (first | refine WP_seq ?_ | refine WP_region ?_ | refine WPL_nil ?_ | (apply WPL_t; (first | exact WT_move rfl | exact WT_assign rfl | (apply g_bin; first | exact WT_gtr rfl rfl | exact WT_add rfl rfl | exact WT_quo rfl rfl) | (apply g_call; first | exact WT_max rfl rfl | exact WT_len rfl rfl | exact WT_lenvec (k := 1) rfl rfl rfl)); exact rfl) | refine WP_skip ?_ | refine WP_cond_f rfl ?_ | (apply WPL_op0; exact rfl; first | (apply g_append; (first | (refine WO_append (k := 2) (l0 := []) rfl rfl (by first | exact Src_rowW (k := 0) rfl rfl) rfl ?_)); intro _) | (apply g_bslice; (first | refine WO_bslice1 rfl rfl ?_); intro _))))
            rename_i v2
            refine ⟨(0 + 1, v2), ⟨by dsimp only; omega, hjn⟩, by dsimp only; omega, ?_⟩
            have hfin : (endsN (r.take (0 + 1))).map nV = (endsN (r.take 0)).map nV ++ [exI .i64 (if (((r[0].length + 111) / 112 : Nat) : Int) > 1 then (((r[0].length + 111) / 112 : Nat) : Int) else 1)] := by
              rw [show endsN (r.take (0 + 1)) = _ from hsn, List.map_append, List.map_singleton]
              congr 2
              unfold nV
              congr 1
              rw [List.take_zero, show usedN [] = 0 by unfold usedN; rfl]
              unfold secsN
              split <;> omega
            dsimp only
            rw [hfin]
            exact Leads_env (by repeat (first | exact sub_nil | refine sub_cons rfl ?_)) (.cons _ (.cons _ (List.Sublist.refl _)))
          · refine WP_vec3 (k := 1) rfl (by omega) fun b13 c13 hv hc hcm => ?_
            subst hv
            have hNk : Nt ((k : Int) - 1) (k - 1) := ⟨by omega⟩
            have hps : ((endsN (r.take k)).map nV)[0 + (k - 1) * 1]? = some (exI .i64 (usedN (r.take k))) := by
              have hg := endsA_get 0 (r.take k) (k - 1) (by rw [List.length_take]; omega)
              rw [show 0 + (k - 1) * 1 = k - 1 by omega, List.getElem?_map, hg, List.take_take, show min (k - 1 + 1) k = k by omega, Nat.zero_add]; rfl
            have hln : ((endsN (r.take k)).map nV).length = k * 1 := by rw [List.length_map, endsA_len, List.length_take]; omega
            (repeat' (first | (apply WPL_op0; exact rfl; refine WO_append_row (k := 2) (l0 := []) rfl rfl rfl hln (Src_rowW (k := 0) rfl rfl) rfl ?_; intro _) | refine WP_seq ?_ | refine WP_region ?_ | refine WPL_nil ?_ | (apply WPL_t; (first | exact WT_move rfl | exact WT_assign rfl | (apply g_load; first | exact WT_load (k := 1) rfl rfl (by assumption) rfl) | (apply g_bin; first | exact WT_gtr rfl rfl | exact WT_add rfl rfl | exact WT_sub rfl rfl | exact WT_quo rfl rfl) | (apply g_index; first | exact WT_indexo rfl rfl rfl) | (apply g_call; first | exact WT_max rfl rfl | exact WT_len rfl rfl | exact WT_lenv rfl rfl)); exact rfl) | (apply WPL_op0; exact rfl; first | (apply g_bslice; (first | refine WO_bslice1 rfl rfl ?_); intro _)) | (refine WP_cond rfl (fun hb => ?_) (fun hb => ?_) <;> (repeat (first | replace hb := dec_t hb | replace hb := dec_f hb)) <;> (try (exfalso; first | omega)))))
            rename_i v2
            refine ⟨(k + 1, v2), ⟨by dsimp only; omega, hjn⟩, by dsimp only; omega, ?_⟩
            have hfin : (endsN (r.take (k + 1))).map nV = (endsN (r.take k)).map nV ++ [exI .i64 ((if (((r[k].length + 111) / 112 : Nat) : Int) > 1 then (((r[k].length + 111) / 112 : Nat) : Int) else 1) + (usedN (r.take k) : Int))] := by
              rw [show endsN (r.take (k + 1)) = _ from hsn, List.map_append, List.map_singleton]
              congr 2
              unfold nV
              congr 1
              unfold secsN
              split <;> omega
            dsimp only
            rw [hfin]
            exact Leads_env (by repeat (first | exact sub_nil | refine sub_cons rfl ?_)) (.cons _ (.cons _ (List.Sublist.refl _)))
        · rw [e1] at hA
          dsimp only at hA
          (repeat' (first | refine WP_seq ?_ | refine WP_region ?_ | refine WPL_nil ?_ | (apply WPL_t; (first | exact WT_move rfl | exact WT_assign rfl | exact WT_extract rfl rfl | (apply g_load; first | exact WT_loadf rfl rfl | exact WT_loada2 (k := 1) rfl rfl rfl) | (apply g_bin; first | exact WT_lss rfl rfl | exact WT_neq rfl rfl) | (apply g_index; first | exact WT_index rfl rfl rfl)); exact rfl) | refine WP_block ?_ | refine WP_skip ?_ | refine WP_exit ?_ | (apply WPL_op0; exact rfl; first | (apply g_callf; first | (refine WO_call Try.func15 rfl hA rfl ?_; rintro _ _ ⟨rfl, rfl⟩)) | (apply g_alloc; refine WO_alloc ?_; intro _) | (apply g_store; first | refine WO_store (k := 0) (l0 := []) rfl rfl rfl ?_)) | (refine WP_cond rfl (fun hb => ?_) (fun hb => ?_) <;> (repeat (first | replace hb := dec_t hb | replace hb := dec_f hb | replace hb := not_t hb | replace hb := not_f hb)) <;> (try (exfalso; first | omega)))))
          exact ⟨(k, v), ⟨by dsimp only; omega, hjk⟩, Leads_env (by repeat (first | exact sub_nil | refine sub_cons rfl ?_)) (List.sublist_cons_self _ _)⟩
      · (repeat' (first | refine WP_seq ?_ | refine WP_region ?_ | refine WPL_nil ?_ | (apply WPL_t; (first | (apply g_bin; first | exact WT_lss rfl rfl)); exact rfl) | refine WP_exit ?_ | (refine WP_cond rfl (fun hb => ?_) (fun hb => ?_) <;> (repeat (first | replace hb := dec_t hb | replace hb := dec_f hb)) <;> (try (exfalso; first | omega)))))
        exact ⟨(k, v), ⟨hk, hjk⟩, Leads_env (by repeat (first | exact sub_nil | refine sub_cons rfl ?_)) (List.Sublist.refl _)⟩
    · obtain ⟨k, v⟩ := x
      obtain ⟨hk, hjk⟩ := hx
      dsimp only at hk hjk ⊢
      have hlk : (r.take k).length = k := by rw [List.length_take]; omega
      have hoall : ∀ b ∈ r.take k, b.length < 2 ^ 40 := fun b hb => r1' b (List.mem_of_mem_take hb)
      have hDin : DIn D0 := by constructor <;> rw [hlf] <;> decide
      generalize r.take k = o at *
      by_cases hk0 : k = 0
      · subst hk0
        obtain rfl := List.eq_nil_of_length_eq_zero hlk
        have hJ := jsync_any [] 40 0 D0 (by decide) (fun b hb => by cases hb) hDin
        have hjs := jsync_same (o := []) (D := D0) hG (by rw [hl40]; exact hjk) hr0 (by omega)
        rw [hl40] at hjs
        rw [show jsyncF [] 40 0 D0 = _ from hjs] at hJ
        (repeat' (first | refine WP_seq ?_ | refine WP_region ?_ | refine WPL_nil ?_ | (apply WPL_t; (first | exact WT_move rfl | exact WT_assign rfl | exact WT_pick (b := false) rfl (fun e => by cases e) (fun _ => rfl) | exact WT_extract rfl rfl | (apply g_load; first | exact WT_loada2 (k := 1) rfl rfl rfl | exact WT_loada2 (k := 2) rfl rfl rfl) | (apply g_bin; first | exact WT_eql rfl rfl | exact WT_neq rfl rfl)); exact rfl) | (apply WPL_gt; exact rfl; exact rfl; exact rfl; (first | exact WT_move rfl | (apply g_bin; first | exact WT_eql rfl rfl) | (apply g_call; first | exact WT_lenvec (k := 2) rfl rfl rfl)); exact rfl) | refine WP_ret ?_ | refine WP_cond_t rfl ?_ | (apply WPL_op0; exact rfl; first | (apply g_callf; first | (refine WO_call Try.func21 rfl hJ rfl ?_; rintro _ _ ⟨rfl, rfl⟩)) | (apply g_alloc; refine WO_alloc ?_; intro _) | (apply g_store; first | refine WO_store (k := 0) (l0 := []) rfl rfl rfl ?_ | refine WO_store (k := 1) (l0 := []) rfl rfl rfl ?_))))
        all_goals (exact ⟨.inr rfl, ret1 rfl (.tmp rfl) (List.nil_sublist _) ⟨rfl, rfl⟩⟩)
      · have hone : o ≠ [] := fun e => hk0 (by rw [← hlk, e]; rfl)
        obtain ⟨D1, hjs, hG1, hl1, hlen1, hdam⟩ := damage_plain hG hlf hr0 (by omega) (by rw [hl40]; exact hjk) hone
        rw [hl40] at hjs hlen1
        have hJ := jsync_any o 40 0 D0 (by omega) hoall hDin
        rw [show jsyncF o 40 0 D0 = _ from hjs] at hJ
        have hEl : (endsN o).length = k := by rw [endsA_len]; exact hlk
        have hE : ∀ (i : Nat) (h : i < (endsN o).length), (endsN o)[i] = usedN (o.take (i + 1)) := fun i h => endsN_get (by omega) h
        have hfl := flat_natV (endsN o)
        refine WP_leads (Leads_fvec (k := 0) (E := eNat) (t := 13) (endsN o) rfl rfl hfl hEl (hby := by show k * 8 ≤ _; omega)) ?_
        have hun : usedN o ≤ 40 := by have := hjk.2.2.2.2; omega
        have hup : 1 ≤ usedN o := by
          rcases o with _ | ⟨b, t⟩
          · exact absurd rfl hone
          · have := secs_pos b.length
            have e : usedN (b :: t) = secsN b.length + usedN t := by unfold usedN; simp
            omega
        have hD1in : DIn D1 := by constructor <;> rw [hl1] <;> decide
        have h128 := hG1.all.1
        generalize hEE : endsN o = E at *
        have hE1 : E.length - 1 < E.length := by omega
        have hNe : Nt ((E.length : Int) - 1) (E.length - 1) := ⟨by omega⟩
        have hEl1 : E[E.length - 1] = usedN o := by rw [hE _ hE1, show E.length - 1 + 1 = o.length by omega, List.take_length]
        have hNs := u64_nt sector
        have hNa := u64_nt at_
        generalize hsu : (sector % 18446744073709551616).toNat = su at *
        generalize hsa : (at_ % 18446744073709551616).toNat = sa at *
        have hLp : 0 < E[E.length - 1] := by omega
        have hkk : su % E[E.length - 1] < E[E.length - 1] := Nat.mod_lt _ hLp
        have hwk : IntKind.i64.wrap ((su % E[E.length - 1] : Nat) : Int) = ((su % E[E.length - 1] : Nat) : Int) := IntWalk.i64_in _ ⟨by generalize su % E[E.length - 1] = q at *; omega, by generalize su % E[E.length - 1] = q at *; omega⟩
        (repeat' (first | (apply cut_at 25; refine Stop.out ?_) | (apply WPL_t; exact WT_convw (m := sector) rfl rfl rfl; exact rfl) | (apply WPL_t; exact WT_conv (m := ((E[E.length - 1]'hE1 : Nat) : Int)) rfl rfl rfl (u64_in (by omega) (by omega)); exact rfl) | (apply WPL_t; exact WT_conv (m := ((su % E[E.length - 1]'hE1 : Nat) : Int)) rfl rfl rfl hwk; exact rfl) | refine WP_seq ?_ | refine WP_region ?_ | refine WPL_nil ?_ | (apply WPL_t; (first | exact WT_move rfl | exact WT_assign rfl | exact WT_pick (b := false) rfl (fun e => by cases e) (fun _ => rfl) | exact WT_extract rfl rfl | (apply g_load; first | exact WT_loadf rfl rfl | exact WT_loada2 (k := 0) rfl rfl rfl | exact WT_loada2 (k := 1) rfl rfl rfl) | (apply g_bin; first | exact WT_neq rfl rfl | exact WT_sub rfl rfl | exact WT_rem rfl rfl) | (apply g_index; first | exact WT_index rfl rfl rfl) | (apply g_call; first | exact WT_len rfl rfl)); exact rfl) | (apply WPL_gt; exact rfl; exact rfl; exact rfl; (first | exact WT_move rfl | (apply g_bin; first | exact WT_eql rfl rfl) | (apply g_call; first | exact WT_len rfl rfl)); exact rfl) | refine WP_skip ?_ | (apply WPL_op0; exact rfl; first | (apply g_callf; first | (refine WO_call Try.func21 rfl hJ rfl ?_; rintro _ _ ⟨rfl, rfl⟩)) | (apply g_alloc; refine WO_alloc ?_; intro _) | (apply g_store; first | refine WO_store (k := 0) (l0 := []) rfl rfl rfl ?_ | refine WO_store (k := 1) (l0 := []) rfl rfl rfl ?_)) | (refine WP_cond rfl (fun hb => ?_) (fun hb => ?_) <;> (repeat (first | replace hb := dec_t hb | replace hb := dec_f hb)) <;> (try (exfalso; first | omega)))))
        refine ⟨?_⟩
        rename_i b19 b20
        generalize hq : su % E[E.length - 1] = q at *
        have hq40 : q < usedN o := by omega
        have hSl : D1.secs[q].length = 128 := h128 _ (List.getElem_mem (by omega))
        have hsq : secAt D1.secs q = D1.secs[q] := by unfold secAt; rw [List.getElem?_eq_getElem (by omega)]; rfl
        (repeat' (first | (apply cut_at 28; refine Stop.out ?_) | refine WP_seq ?_ | refine WP_region ?_ | refine WPL_nil ?_ | (apply WPL_t; (first | exact WT_move rfl | exact WT_assign rfl | exact WT_pick (b := true) rfl (fun _ => rfl) (fun e => by cases e) | exact WT_pick (b := false) rfl (fun e => by cases e) (fun _ => rfl) | (apply g_load; first | exact WT_loadf rfl rfl | exact WT_load (k := 0) rfl rfl rfl rfl | exact WT_load (k := 1) rfl rfl rfl rfl) | (apply g_fld; first | exact WT_field rfl rfl rfl) | (apply g_bin; first | exact WT_geq rfl rfl) | (apply g_index; first | exact WT_index rfl rfl rfl) | (apply g_call; first | exact WT_len rfl rfl)); exact rfl) | (refine WPL_off rfl rfl rfl rfl rfl ?_) | (apply WPL_gt; exact rfl; exact rfl; exact rfl; (first | exact WT_move rfl | (apply g_load; first | exact WT_loadf rfl rfl | exact WT_load (k := 0) rfl rfl rfl rfl | exact WT_load (k := 2) rfl rfl rfl rfl) | (apply g_fld; first | exact WT_field rfl rfl rfl) | (apply g_bin; first | exact WT_neq rfl rfl | exact WT_gtr rfl rfl) | (apply g_index; first | exact WT_index rfl rfl rfl) | (apply g_call; first | exact WT_len rfl rfl)); exact rfl) | refine WP_skip ?_ | refine WP_ret ?_ | refine WP_cond_t rfl ?_ | (apply WPL_op0; exact rfl; first | (apply g_append; (first | (refine WO_append_row (k := 0) (l0 := []) rfl rfl rfl rfl (by first | exact Src_isl rfl) rfl ?_)); intro _) | (apply g_bslice; (first | refine WO_bslice0 rfl ?_); intro _)) | (refine WPL_case rfl rfl (fun hb => ?_) (fun hb => ?_) <;> (repeat (first | replace hb := dec_t hb | replace hb := dec_f hb)) <;> (try (exfalso; first | omega))) | (refine WP_cond rfl (fun hb => ?_) (fun hb => ?_) <;> (repeat (first | replace hb := dec_t hb | replace hb := dec_f hb | replace hb := not_t hb | replace hb := not_f hb)) <;> (try (exfalso; first | fail)))))
        all_goals (try (exfalso; dsimp only at hb; omega))
        refine ⟨?_⟩
        refine WP_vec3 (k := 0) rfl (by omega) fun b23 c23 hv hc hcm => ?_
        subst hv
        rw [List.nil_append, flat_byV]
        generalize hSS : D1.secs[q] = S at *
        have hpl : (S.map ub)[0 + (sa % 128) * 1]? = some (ub (S[sa % 128]'(by omega))) := by
          rw [show 0 + (sa % 128) * 1 = sa % 128 by omega, List.getElem?_map, List.getElem?_eq_getElem (by omega)]; rfl
        (repeat' (first | (apply cut_at 29; refine Stop.out ?_) | (apply WPL_t; exact WT_convw (m := at_) rfl rfl rfl; exact rfl) | (apply WPL_t; exact WT_xorb rfl rfl; exact rfl) | refine WP_seq ?_ | refine WP_region ?_ | refine WPL_nil ?_ | (apply WPL_t; (first | exact WT_move rfl | (apply g_load; first | exact WT_load (k := 0) rfl rfl (by assumption) rfl) | (apply g_bin; first | exact WT_rem rfl rfl) | (apply g_index; first | exact WT_indexo rfl rfl rfl)); exact rfl) | (apply WPL_op0; exact rfl; first | (apply g_store; first | (refine WO_storeB (k := 0) (l0 := []) rfl rfl rfl ?_; intro _ _ _)))))
        refine ⟨?_⟩
        rename_i bs2 hbs2 hbl2
        have hset : bs2 = S.set (sa % 128) (S[sa % 128]'(by omega) ^^^ by_) := by
          rw [hbs2, show 0 + sa % 128 * 1 = sa % 128 by omega, List.set_eq_take_append_cons_drop, if_pos (by omega)]
          unfold over
          simp
        have hrec : recordsR (D1.secs.set q bs2) = o.take (done o q) := by
          have := hdam q (sa % 128) (S[sa % 128]'(by omega) ^^^ by_) hq40 (by omega) (fun e => hby (by
            rw [hsq, List.getD_eq_getElem?_getD, List.getElem?_eq_getElem (by omega)] at e
            have e2 : S[sa % 128]'(by omega) ^^^ by_ = S[sa % 128]'(by omega) := e
            have e3 : S[sa % 128]'(by omega) ^^^ (S[sa % 128]'(by omega) ^^^ by_) = S[sa % 128]'(by omega) ^^^ S[sa % 128]'(by omega) := by rw [e2]
            rwa [← UInt8.xor_assoc, UInt8.xor_self, UInt8.zero_xor] at e3))
          rwa [hsq, ← hset] at this
        have hW := write_fr D1 q bs2 hD1in (by omega)
        have hwr := write_ok1 hG1.ok hG1.runs (a := q) (by omega) (x := bs2) (by omega) (by rw [hG1.none]; decide)
        rw [hG1.none, List.nil_append] at hwr
        rw [hwr.1] at hW
        have hY := sync_fr { D1 with pend := [⟨(q : Int), bs2⟩] } hD1in
        have hsy : syncF { D1 with pend := [⟨(q : Int), bs2⟩] } = (⟨D1.secs.set q bs2, [], -1, false⟩, 0) := by
          unfold syncF
          rw [hwr.2, hG1.runs, if_pos (by decide), if_neg (by rw [hl1]; rintro ⟨h, _⟩; revert h; decide), hl1, if_neg (by decide)]
          rfl
        rw [hsy] at hY
        have hGz : Good ⟨D1.secs.set q bs2, [], -1, false⟩ := good_of (fun x hx => by
          rcases List.mem_or_eq_of_mem_set hx with h | h
          · exact h128 x h
          · rw [h]; omega) (by rw [List.length_set]; omega) (by rw [List.length_set]; omega) (by decide) (by decide)
        have hOZ := open_any ⟨D1.secs.set q bs2, [], -1, false⟩
        rw [open_good hGz, show recordsR (Disk.secs ⟨D1.secs.set q bs2, [], -1, false⟩) = _ from hrec] at hOZ
        have hdl := done_le o q
        refine WP_leads (Leads_frow (k := 0) (E := eByte) (t := 23) bs2 rfl rfl (flat_byV bs2).symm (by omega)) ?_
        (repeat' (first | refine WP_seq ?_ | refine WP_region ?_ | refine WPL_nil ?_ | (apply WPL_t; (first | exact WT_move rfl | exact WT_assign rfl | exact WT_extract rfl rfl | (apply g_load; first | exact WT_loada2 (k := 0) rfl rfl rfl)); exact rfl) | refine WP_block ?_ | (apply WPL_op0; exact rfl; first | (apply g_callf; first | (refine WO_call Try.func26 rfl hW rfl ?_; rintro _ _ ⟨rfl, rfl⟩) | (refine WO_call Try.func27 rfl hY rfl ?_; rintro _ _ ⟨rfl, rfl⟩) | (refine WO_call Try.func12 rfl hOZ rfl ?_; rintro _ _ ⟨rfl, rfl⟩)) | (apply g_alloc; refine WO_alloc ?_; intro _) | (apply g_store; first | refine WO_store (k := 0) (l0 := []) rfl rfl rfl ?_))))
        rename_i b25
        refine WP_loop (fun w : Nat => ([(8, exB false), (11, ex (.pointer (some ⟨b11, 0, none⟩))), (13, isl eNat E), (21, exI .i64 0), (22, exI .i64 q), (24, exI .i64 0), (25, ex (.pointer (some ⟨b25, 0, none⟩))), (26, exI .i64 0), (27, exI .i64 w)], [row b25 29 3 [isl (eSl eByte) (o.take (done o q)), exI .i64 ((D1.secs.set q bs2).length : Nat), exI .i64 ((o.take (done o q)).length : Nat)], row b11 29 3 [isl (eSl eByte) o, exI .i64 40, exI .i64 0]])) (fun w => w ≤ o.length ∧ usedN (o.take w) ≤ q) (fun w => o.length - w) 0 ?_ ⟨Nat.zero_le _, by rw [List.take_zero, show usedN [] = 0 by unfold usedN; rfl]; omega⟩ fun w hx => ?_
        · exact Leads_env (by repeat (first | exact sub_nil | refine sub_cons rfl ?_)) (.cons_cons _ (.cons _ (.cons _ (.cons_cons _ (List.nil_sublist _)))))
        obtain ⟨hw, hwq⟩ := hx
        have hfin : (w = o.length ∨ q < usedN (o.take (w + 1))) → FnC Try.prog 24 [isl (eSl eByte) (o.take (done o q)), isl (eSl eByte) (o.take w)] [] (fun p loc => p = exB true ∧ loc = []) := fun h => by
          have he := sameRec_any (o.take w) (o.take w) (by rw [List.length_take]; omega) (by rw [List.length_take]; omega)
          rw [decide_eq_true rfl] at he
          rw [done_is o q w hw hwq h]
          exact he
        by_cases hwl : w < o.length
        · have hEw := hE w (by omega)
          have hwE : w < E.length := by omega
          by_cases hle : usedN (o.take (w + 1)) ≤ q
          · (repeat' (first | refine WP_seq ?_ | refine WP_region ?_ | refine WPL_nil ?_ | (apply WPL_t; (first | exact WT_move rfl | exact WT_assign rfl | exact WT_pick (b := true) rfl (fun _ => rfl) (fun e => by cases e) | (apply g_bin; first | exact WT_lss rfl rfl | exact WT_add rfl rfl) | (apply g_call; first | exact WT_len rfl rfl)); exact rfl) | (apply WPL_gt; exact rfl; exact rfl; exact rfl; (first | exact WT_move rfl | (apply g_load; first | exact WT_loadf rfl rfl) | (apply g_bin; first | exact WT_leq rfl rfl) | (apply g_index; first | exact WT_index rfl rfl rfl)); exact rfl) | refine WP_block ?_ | refine WP_skip ?_ | (refine WPL_case rfl rfl (fun hb => ?_) (fun hb => ?_) <;> (repeat (first | replace hb := dec_t hb | replace hb := dec_f hb)) <;> (try (exfalso; first | omega))) | (refine WP_cond rfl (fun hb => ?_) (fun hb => ?_) <;> (repeat (first | replace hb := dec_t hb | replace hb := dec_f hb)) <;> (try (exfalso; first | omega)))))
            exact ⟨w + 1, ⟨by omega, hle⟩, by omega, Leads_env (by repeat (first | exact sub_nil | refine sub_cons rfl ?_)) (List.Sublist.refl _)⟩
          · have hE := hfin (.inr (by omega))
            (repeat' (first | refine WP_seq ?_ | refine WP_region ?_ | refine WPL_nil ?_ | (apply WPL_t; (first | exact WT_move rfl | exact WT_pick (b := true) rfl (fun _ => rfl) (fun e => by cases e) | (apply g_bin; first | exact WT_lss rfl rfl) | (apply g_call; first | exact WT_len rfl rfl)); exact rfl) | (apply WPL_gt; exact rfl; exact rfl; exact rfl; (first | exact WT_move rfl | (apply g_load; first | exact WT_loadf rfl rfl) | (apply g_bin; first | exact WT_leq rfl rfl) | (apply g_index; first | exact WT_index rfl rfl rfl)); exact rfl) | refine WP_exit ?_ | (refine WPL_case rfl rfl (fun hb => ?_) (fun hb => ?_) <;> (repeat (first | replace hb := dec_t hb | replace hb := dec_f hb)) <;> (try (exfalso; first | omega))) | (refine WP_cond rfl (fun hb => ?_) (fun hb => ?_) <;> (repeat (first | replace hb := dec_t hb | replace hb := dec_f hb)) <;> (try (exfalso; first | omega)))))
            all_goals (try (exfalso; omega))
            (refine WP_drawl 20 rfl ?_)
            all_goals ((apply WPY_pure 0 rfl (by decide +kernel) rfl (by repeat (first | exact np_ret)) guard_none; (first | exact WT_move rfl); exact rfl))
            all_goals ((apply WPY_pure 1 rfl (by decide +kernel) rfl (by repeat (first | exact np_ret)) guard_none; (first | (apply g_bin; first | exact WT_eql rfl rfl)); exact rfl))
            all_goals ((apply WPY_pure 2 rfl (by decide +kernel) rfl (by repeat (first | exact np_ret)) guard_none; (first | exact WT_move rfl); exact rfl))
            all_goals (first | (refine WPY_case 194 rfl (fun hb => ?_) (fun hb => ?_) <;> (repeat (first | replace hb := dec_t hb | replace hb := dec_f hb | replace hb := not_t hb | replace hb := not_f hb)) <;> (try (exfalso; first | (cases hb; done) | omega))) | skip)
            all_goals (first | (apply WPY_pure 3 rfl (by decide +kernel) rfl (by repeat (first | exact np_ret)) (guard_some rfl rfl rfl); (first | exact WT_move rfl); exact rfl))
            all_goals (first | (apply WPY_pure 4 rfl (by decide +kernel) rfl (by repeat (first | exact np_ret)) (guard_some rfl rfl rfl); (first | (apply g_bin; first | exact WT_eql rfl rfl)); exact rfl))
            all_goals ((apply WPY_pure 5 rfl (by decide +kernel) rfl (by repeat (first | exact np_ret)) guard_none; (first | exact WT_pick (b := true) rfl (fun _ => rfl) (fun e => by cases e)); exact rfl))
            all_goals ((apply WPY_pure 6 rfl (by decide +kernel) rfl (by repeat (first | exact np_ret)) guard_none; (first | exact WT_move rfl); exact rfl))
            all_goals (first | (refine WPY_case 198 rfl (fun hb => ?_) (fun hb => ?_) <;> (repeat (first | replace hb := dec_t hb | replace hb := dec_f hb | replace hb := not_t hb | replace hb := not_f hb)) <;> (try (exfalso; first | (cases hb; done) | omega))) | skip)
            all_goals (first | (apply WPY_pure 7 rfl (by decide +kernel) rfl (by repeat (first | exact np_ret)) (guard_some rfl rfl rfl); (first | exact WT_move rfl); exact rfl))
            all_goals (first | (apply WPY_pure 8 rfl (by decide +kernel) rfl (by repeat (first | exact np_ret)) (guard_some rfl rfl rfl); (first | (apply g_bin; first | exact WT_eql rfl rfl)); exact rfl))
            all_goals ((apply WPY_pure 9 rfl (by decide +kernel) rfl (by repeat (first | exact np_ret)) guard_none; (first | exact WT_pick (b := true) rfl (fun _ => rfl) (fun e => by cases e)); exact rfl))
            all_goals ((apply WPY_pure 10 rfl (by decide +kernel) rfl (by repeat (first | exact np_ret)) guard_none; (first | exact WT_move rfl); exact rfl))
            all_goals (first | (refine WPY_case 202 rfl (fun hb => ?_) (fun hb => ?_) <;> (repeat (first | replace hb := dec_t hb | replace hb := dec_f hb | replace hb := not_t hb | replace hb := not_f hb)) <;> (try (exfalso; first | (cases hb; done) | omega))) | skip)
            all_goals (first | (apply WPY_pure 11 rfl (by decide +kernel) rfl (by repeat (first | exact np_ret)) (guard_some rfl rfl rfl); (first | (apply g_fld; first | exact WT_field rfl rfl rfl)); exact rfl))
            all_goals (first | (apply WPY_take 12 rfl (by decide +kernel) rfl (by decide +kernel) (by repeat (first | exact np_ret)) (guard_some rfl rfl rfl); (first | (apply g_load; first | exact WT_load (k := 0) rfl rfl rfl rfl)); exact rfl))
            all_goals (first | (apply WPY_pure 13 rfl (by decide +kernel) rfl (by repeat (first | exact np_ret)) (guard_some rfl rfl rfl); (first | (apply g_fld; first | exact WT_field rfl rfl rfl)); exact rfl))
            all_goals (first | (apply WPY_take 14 rfl (by decide +kernel) rfl (by decide +kernel) (by repeat (first | exact np_ret)) (guard_some rfl rfl rfl); (first | (apply g_load; first | exact WT_load (k := 1) rfl rfl rfl rfl)); exact rfl))
            all_goals (first | (apply WPY_pure 15 rfl (by decide +kernel) rfl (by repeat (first | exact np_ret)) (guard_some rfl rfl rfl); (first | exact WT_move rfl); exact rfl))
            all_goals (first | (apply WPY_pure 16 rfl (by decide +kernel) rfl (by repeat (first | exact np_ret)) (guard_some rfl rfl rfl); (first | (apply g_slice; first | exact WT_slch rfl rfl rfl)); exact rfl))
            all_goals (first | (apply WPY_one 17; exact (by decide +kernel); exact rfl; exact (guard_some rfl rfl rfl); exact (fun _ _ h => h); first | (apply g_callf; first | (refine WO_call Try.func24 rfl hE rfl ?_; rintro _ _ ⟨rfl, rfl⟩))))
            all_goals ((apply WPY_pure 18 rfl (by decide +kernel) rfl (by repeat (first | exact np_ret)) guard_none; (first | exact WT_pick (b := true) rfl (fun _ => rfl) (fun e => by cases e)); exact rfl))
            all_goals ((apply WPY_pure 19 rfl (by decide +kernel) rfl (by repeat (first | exact np_ret)) guard_none; (first | exact WT_assign rfl); exact rfl))
            all_goals (refine WPY_done (by decide +kernel) ?_)
            all_goals ((repeat' (first | refine WP_ret ?_)))
            all_goals (exact ⟨.inr rfl, ret1 rfl (.tmp rfl) (List.nil_sublist _) ⟨rfl, rfl⟩⟩)
        · have hE := hfin (.inl (by omega))
          have hwo : w = o.length := by omega
          (repeat' (first | refine WP_seq ?_ | refine WP_region ?_ | refine WPL_nil ?_ | (apply WPL_t; (first | exact WT_move rfl | exact WT_pick (b := false) rfl (fun e => by cases e) (fun _ => rfl) | (apply g_bin; first | exact WT_lss rfl rfl) | (apply g_call; first | exact WT_len rfl rfl)); exact rfl) | (refine WPL_off rfl rfl rfl rfl rfl ?_) | refine WP_exit ?_ | refine WP_cond_f rfl ?_ | (refine WPL_case rfl rfl (fun hb => ?_) (fun hb => ?_) <;> (repeat (first | replace hb := dec_t hb | replace hb := dec_f hb)) <;> (try (exfalso; first | omega)))))
          all_goals (try (exfalso; omega))
          (refine WP_drawl 20 rfl ?_)
          all_goals ((apply WPY_pure 0 rfl (by decide +kernel) rfl (by repeat (first | exact np_ret)) guard_none; (first | exact WT_move rfl); exact rfl))
          all_goals ((apply WPY_pure 1 rfl (by decide +kernel) rfl (by repeat (first | exact np_ret)) guard_none; (first | (apply g_bin; first | exact WT_eql rfl rfl)); exact rfl))
          all_goals ((apply WPY_pure 2 rfl (by decide +kernel) rfl (by repeat (first | exact np_ret)) guard_none; (first | exact WT_move rfl); exact rfl))
          all_goals (first | (refine WPY_case 194 rfl (fun hb => ?_) (fun hb => ?_) <;> (repeat (first | replace hb := dec_t hb | replace hb := dec_f hb | replace hb := not_t hb | replace hb := not_f hb)) <;> (try (exfalso; first | (cases hb; done) | omega))) | skip)
          all_goals (first | (apply WPY_pure 3 rfl (by decide +kernel) rfl (by repeat (first | exact np_ret)) (guard_some rfl rfl rfl); (first | exact WT_move rfl); exact rfl))
          all_goals (first | (apply WPY_pure 4 rfl (by decide +kernel) rfl (by repeat (first | exact np_ret)) (guard_some rfl rfl rfl); (first | (apply g_bin; first | exact WT_eql rfl rfl)); exact rfl))
          all_goals ((apply WPY_pure 5 rfl (by decide +kernel) rfl (by repeat (first | exact np_ret)) guard_none; (first | exact WT_pick (b := true) rfl (fun _ => rfl) (fun e => by cases e)); exact rfl))
          all_goals ((apply WPY_pure 6 rfl (by decide +kernel) rfl (by repeat (first | exact np_ret)) guard_none; (first | exact WT_move rfl); exact rfl))
          all_goals (first | (refine WPY_case 198 rfl (fun hb => ?_) (fun hb => ?_) <;> (repeat (first | replace hb := dec_t hb | replace hb := dec_f hb | replace hb := not_t hb | replace hb := not_f hb)) <;> (try (exfalso; first | (cases hb; done) | omega))) | skip)
          all_goals (first | (apply WPY_pure 7 rfl (by decide +kernel) rfl (by repeat (first | exact np_ret)) (guard_some rfl rfl rfl); (first | exact WT_move rfl); exact rfl))
          all_goals (first | (apply WPY_pure 8 rfl (by decide +kernel) rfl (by repeat (first | exact np_ret)) (guard_some rfl rfl rfl); (first | (apply g_bin; first | exact WT_eql rfl rfl)); exact rfl))
          all_goals ((apply WPY_pure 9 rfl (by decide +kernel) rfl (by repeat (first | exact np_ret)) guard_none; (first | exact WT_pick (b := true) rfl (fun _ => rfl) (fun e => by cases e)); exact rfl))
          all_goals ((apply WPY_pure 10 rfl (by decide +kernel) rfl (by repeat (first | exact np_ret)) guard_none; (first | exact WT_move rfl); exact rfl))
          all_goals (first | (refine WPY_case 202 rfl (fun hb => ?_) (fun hb => ?_) <;> (repeat (first | replace hb := dec_t hb | replace hb := dec_f hb | replace hb := not_t hb | replace hb := not_f hb)) <;> (try (exfalso; first | (cases hb; done) | omega))) | skip)
          all_goals (first | (apply WPY_pure 11 rfl (by decide +kernel) rfl (by repeat (first | exact np_ret)) (guard_some rfl rfl rfl); (first | (apply g_fld; first | exact WT_field rfl rfl rfl)); exact rfl))
          all_goals (first | (apply WPY_take 12 rfl (by decide +kernel) rfl (by decide +kernel) (by repeat (first | exact np_ret)) (guard_some rfl rfl rfl); (first | (apply g_load; first | exact WT_load (k := 0) rfl rfl rfl rfl)); exact rfl))
          all_goals (first | (apply WPY_pure 13 rfl (by decide +kernel) rfl (by repeat (first | exact np_ret)) (guard_some rfl rfl rfl); (first | (apply g_fld; first | exact WT_field rfl rfl rfl)); exact rfl))
          all_goals (first | (apply WPY_take 14 rfl (by decide +kernel) rfl (by decide +kernel) (by repeat (first | exact np_ret)) (guard_some rfl rfl rfl); (first | (apply g_load; first | exact WT_load (k := 1) rfl rfl rfl rfl)); exact rfl))
          all_goals (first | (apply WPY_pure 15 rfl (by decide +kernel) rfl (by repeat (first | exact np_ret)) (guard_some rfl rfl rfl); (first | exact WT_move rfl); exact rfl))
          all_goals (first | (apply WPY_pure 16 rfl (by decide +kernel) rfl (by repeat (first | exact np_ret)) (guard_some rfl rfl rfl); (first | (apply g_slice; first | exact WT_slch rfl rfl rfl)); exact rfl))
          all_goals (first | (apply WPY_one 17; exact (by decide +kernel); exact rfl; exact (guard_some rfl rfl rfl); exact (fun _ _ h => h); first | (apply g_callf; first | (refine WO_call Try.func24 rfl hE rfl ?_; rintro _ _ ⟨rfl, rfl⟩))))
          all_goals ((apply WPY_pure 18 rfl (by decide +kernel) rfl (by repeat (first | exact np_ret)) guard_none; (first | exact WT_pick (b := true) rfl (fun _ => rfl) (fun e => by cases e)); exact rfl))
          all_goals ((apply WPY_pure 19 rfl (by decide +kernel) rfl (by repeat (first | exact np_ret)) guard_none; (first | exact WT_assign rfl); exact rfl))
          all_goals (refine WPY_done (by decide +kernel) ?_)
          all_goals ((repeat' (first | refine WP_ret ?_)))
          all_goals (exact ⟨.inr rfl, ret1 rfl (.tmp rfl) (List.nil_sublist _) ⟨rfl, rfl⟩⟩)
  · (repeat' (first | (apply cut_at 6; refine Stop.out ?_) | refine WP_seq ?_ | refine WP_region ?_ | refine WPL_nil ?_ | (apply WPL_t; (first | exact WT_move rfl | exact WT_assign rfl | exact WT_pick (b := true) rfl (fun _ => rfl) (fun e => by cases e) | exact WT_pick (b := false) rfl (fun e => by cases e) (fun _ => rfl) | exact WT_extract rfl rfl | (apply g_bin; first | exact WT_eql rfl rfl | exact WT_neq rfl rfl) | (apply g_un; first | exact WT_not rfl)); exact rfl) | (refine WPL_off rfl rfl rfl rfl rfl ?_) | (apply WPL_gt; exact rfl; exact rfl; exact rfl; (first | exact WT_move rfl | (apply g_load; first | exact WT_loada2 (k := 0) rfl rfl rfl) | (apply g_bin; first | exact WT_eql rfl rfl) | (apply g_call; first | exact WT_len rfl rfl) | (apply g_un; first | exact WT_not rfl)); exact rfl) | refine WP_skip ?_ | refine WP_ret ?_ | refine WP_cond_t rfl ?_ | refine WP_cond_f rfl ?_ | (apply WPL_op0; exact rfl; first | (apply g_callf; first | (refine WO_call Try.func10 rfl sane_any rfl ?_; rintro _ _ ⟨rfl, rfl⟩) | (refine WO_call Try.func25 rfl hN rfl ?_; rintro _ _ ⟨rfl, rfl⟩)) | (apply g_alloc; refine WO_alloc ?_; intro _) | (apply g_store; first | refine WO_store (k := 0) (l0 := []) rfl rfl rfl ?_)) | (apply WPL_on0; exact rfl; exact rfl; exact rfl; exact rfl; (apply g_callf; first | (refine WO_call Try.func11 rfl hF rfl ?_; rintro _ _ ⟨rfl, rfl⟩))) | (refine WPL_case rfl rfl (fun hb => ?_) (fun hb => ?_) <;> (repeat (first | replace hb := dec_t hb | replace hb := dec_f hb | replace hb := not_t hb | replace hb := not_f hb)) <;> (try (exfalso; first | fail))) | (refine WP_cond rfl (fun hb => ?_) (fun hb => ?_) <;> (repeat (first | replace hb := dec_t hb | replace hb := dec_f hb)) <;> (try (exfalso; first | fail)))))
    all_goals first | (exact ⟨.inr rfl, ret1 rfl (.tmp rfl) (List.nil_sublist _) ⟨rfl, rfl⟩⟩) | skip
    exfalso
    rename_i h1 h2
    exact hfw ⟨h1, fun e => h2 (by rw [e]; rfl), fun e => hb (by rw [e]; rfl)⟩

theorem damage_run (W : World) (a1 : Option Addr) (n1 c1 : Nat) (r : List (List UInt8)) (sector at_ : Int) (by_ : UInt8) (h1 : Sl (eSl eByte) (fun _ => True) W a1 n1 c1 r) (s1 : SmallR r) (h2 : -9223372036854775808 ≤ sector ∧ sector ≤ 9223372036854775807) (h3 : -9223372036854775808 ≤ at_ ∧ at_ ≤ 9223372036854775807) :
    Calls Try.prog 7 #[.slice a1 n1 c1, .int .i64 sector, .int .i64 at_, .int .u8 by_.toNat] W fun e w' => e = .returned (.bool true) ∧ Below W.heap.size W w' :=
  law_of (damage_any r sector at_ by_ s1 h2 h3) (.cons ⟨a1, n1, c1, rfl, h1⟩ (.cons rfl (.cons rfl (.cons rfl .nil))))

end Go.Proofs.Ytmghnjahjeinnaa
