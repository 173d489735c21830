/- DiskHistory. -/
import Derived.Test.YtckcdokfhdckhaaHa
-- ARRAYS
namespace Go.Proofs.Ytckcdokfhdckhaa
open Go Go.RowKit Go.Kx Go.Fr

def actV (x : Act4) : List SP := [exB x.sync, exI .u8 x.at_.toNat, exI .u8 x.byte.toNat]
instance fits_act : Fits eAct actV where
  out {F w cs a} h := by
    simp only [eAct] at h
    subst h
    exact .cons rfl (.cons rfl (.cons rfl .nil))
  inn {F w cs a} h := by
    obtain ⟨v0, h0, q0⟩ := h.at_ 0 _ rfl
    obtain ⟨v1, h1, q1⟩ := h.at_ 1 _ rfl
    obtain ⟨v2, h2, q2⟩ := h.at_ 2 _ rfl
    have hl : cs.length = 3 := h.len
    match cs, hl with
    | [u0, u1, u2], _ =>
      cases h0; cases h1; cases h2
      have e0 : v0 = .bool a.sync := q0
      have e1 : v1 = .int .u8 (a.at_.toNat : Int) := q1
      have e2 : v2 = .int .u8 (a.byte.toNat : Int) := q2
      subst e0 e1 e2
      rfl
theorem WT_indexA {C : Cx} {S : (Nat → Prop) → World → World → Prop} {env : Env} {loc : List Ent} {dst : Option Tmp} {ty : TypeId} {pos : String} {af : Array Edge} {g : Option (Nat × Bool)} {l : List Act4} {t e : TypeId} {x y : Operand} {k : IntKind} {m : Int} {i bt : Nat} {z : Value} (hx : ev env x = some (isl eAct l)) (hy : ev env y = some (exI k m)) [hm : Nt m i] (ht : C.P.underlying t = some (.slice e)) [hT : TI C.P e 3 bt z] (hl : i < l.length := by first | omega | (simp; done) | (simp; omega)) :
    WT C S ⟨dst, .indexAddr t x y, ty, pos, af, g⟩ (fp [exB l[i].sync, exI .u8 l[i].at_.toNat, exI .u8 l[i].byte.toNat]) env loc := WT_index (fs := actV) hx hy ht hl
theorem over_set (f : List UInt8) (i : Nat) (c : UInt8) (h : i < f.length) : over f (0 + i * 1) [c] = f.set i c := by
  rw [show 0 + i * 1 = i by omega, List.set_eq_take_append_cons_drop, if_pos h]
  unfold over
  simp
theorem eN4 : newF 4 = (histD [0, 0, 0, 0] [] (-1), 0) := by kernel_rfl
theorem eT4 (n : Nat) (h : n ≤ 65536) : stopF (histD [0, 0, 0, 0] [] (-1)) n = (histD [0, 0, 0, 0] [] n, 0) := by
  unfold stopF
  rw [hist_ok rfl (by decide) (by decide) (by decide), show (histD [0, 0, 0, 0] [] (-1)).stopped = false from rfl, if_pos (by decide), if_neg (by simp; omega)]
  rfl
theorem hist_in {f : List UInt8} {W : List Act4} {room : Int} (h1 : -1 ≤ room) (h2 : room ≤ 65536) : DIn (histD f W room) := by
  constructor <;> (show _ ≤ _) <;> unfold histD <;> dsimp only <;> omega
theorem restart_hist (f : List UInt8) (W : List Act4) (room : Int) : restartF (histD f W room) = histD f [] (-1) := rfl
attribute [local irreducible] histD upd

set_option maxHeartbeats 8000000 in
set_option maxRecDepth 100000 in
theorem history_any (script : List Act4) (left : UInt8) : FnC Try.prog 6 [isl eAct script, exI .u8 left.toNat] [] (fun p loc => p = exB true ∧ loc = []) := by
  refine FnC_enter Try.func6 rfl Try.ntmps6 rfl fun w0 F0 out => ?_
  have hll := left.toNat_lt
  have hN := new_fr 4
  rw [eN4] at hN
  have hT := stop_fr (histD [0, 0, 0, 0] [] (-1)) (left.toNat : Nat) (hist_in (by decide) (by decide)) (by omega)
  rw [eT4 _ (by omega)] at hT
  have hu0 : upd [0, 0, 0, 0] [] = [0, 0, 0, 0] := by unfold upd; rfl
  by_cases hlen : script.length ≤ 40
  · (repeat' (first | refine WP_seq ?_ | refine WP_region ?_ | refine WPL_nil ?_ | (apply WPL_t; (first | exact WT_move rfl | exact WT_assign rfl | exact WT_pick (b := false) rfl (fun e => by cases e) (fun _ => rfl) | exact WT_extract rfl rfl | (apply g_load; first | exact WT_loada2 (k := 0) rfl rfl rfl) | (apply g_bin; first | exact WT_neq rfl rfl | exact WT_gtr rfl rfl) | (apply g_conv; first | exact WT_convb rfl rfl rfl) | (apply g_call; first | exact WT_len rfl rfl) | (apply g_un; first | exact WT_not rfl)); exact rfl) | (apply WPL_gt; exact rfl; exact rfl; exact rfl; (first | exact WT_move rfl | (apply g_bin; first | exact WT_neq rfl rfl)); exact rfl) | refine WP_block ?_ | refine WP_skip ?_ | refine WP_cond_f rfl ?_ | (apply WPL_op0; exact rfl; first | (apply g_callf; first | (refine WO_call Try.func10 rfl sane_fr rfl ?_; rintro _ _ ⟨rfl, rfl⟩) | (refine WO_call Try.func12 rfl hN rfl ?_; rintro _ _ ⟨rfl, rfl⟩) | (refine WO_call Try.func25 rfl hT rfl ?_; rintro _ _ ⟨rfl, rfl⟩)) | (apply g_alloc; refine WO_alloc ?_; intro _) | (apply g_store; first | refine WO_store (k := 0) (l0 := []) rfl rfl rfl ?_) | (apply g_bslice; (first | refine WO_bslice0 rfl ?_); intro _)) | (refine WP_cond rfl (fun hb => ?_) (fun hb => ?_) <;> (repeat (first | replace hb := dec_t hb | replace hb := dec_f hb)) <;> (try (exfalso; first | omega)))))
    all_goals (try (exfalso; omega))
    rename_i b5 b8 b9 b10 b11
    refine WP_loop (fun x : Nat × List UInt8 × List Act4 × Value × Int => ([(0, isl eAct script), (1, exI .u8 left.toNat), (4, exB false), (5, ex (.pointer (some ⟨b5, 0, none⟩))), (8, ex (.pointer (some ⟨b8, 0, none⟩))), (9, ex (.pointer (some ⟨b9, 0, none⟩))), (10, ex (.pointer (some ⟨b10, 0, none⟩))), (11, ex x.2.2.2.1), (12, exI .i64 x.2.2.2.2), (13, exI .i64 x.1)], [vec x.2.2.2.1 46 3 x.2.2.1.length (x.2.2.1.flatMap actV), row b10 44 4 ((x.2.1).map ub), row b9 44 4 ((x.2.1).map ub), row b8 44 4 ((upd x.2.1 x.2.2.1).map ub), row b5 25 4 [isl (eSl eByte) (histD x.2.1 x.2.2.1 x.2.2.2.2).secs, isl eWr (histD x.2.1 x.2.2.1 x.2.2.2.2).pend, exI .i64 (histD x.2.1 x.2.2.1 x.2.2.2.2).left, exB (histD x.2.1 x.2.2.1 x.2.2.2.2).stopped]])) (fun x => x.1 ≤ script.length ∧ x.2.1.length = 4 ∧ x.2.2.1.length ≤ x.1 ∧ 0 ≤ x.2.2.2.2 ∧ x.2.2.2.2 ≤ 255) (fun x => script.length - x.1) (0, [0, 0, 0, 0], [], .slice (some ⟨b11, 0, none⟩) 0 0, left.toNat) ?_ ⟨Nat.zero_le _, rfl, Nat.le_refl _, by dsimp only; omega, by dsimp only; omega⟩ fun x hx => ?_
    · dsimp only
      rw [hu0]
      exact Leads.trans ((LeadsS_row_vec (k := 0) (c := 0) (n := 0) (sz := 3) rfl rfl rfl (by decide) (by decide)).leads) (Leads_env (by repeat (first | exact sub_nil | refine sub_cons rfl ?_)) (List.Sublist.refl _))
    obtain ⟨i, f, W, v, room⟩ := x
    obtain ⟨hi, hf, hWi, hr0, hr1⟩ := hx
    dsimp only at hi hf hWi hr0 hr1 ⊢
    have hul : (upd f W).length = 4 := by rw [upd_len, hf]
    by_cases hlt : i < script.length
    · (repeat' (first | (apply WPL_t; exact WT_indexA rfl rfl rfl; exact rfl) | (apply cuts_at 16; refine Stop.out ?_) | refine WP_seq ?_ | refine WP_region ?_ | refine WPL_nil ?_ | (apply WPL_t; (first | exact WT_move rfl | (apply g_load; first | exact WT_loadfa2 rfl rfl) | (apply g_bin; first | exact WT_lss rfl rfl) | (apply g_call; first | exact WT_len rfl rfl)); exact rfl) | refine WP_block ?_ | refine WP_skip ?_ | (apply WPL_op0; exact rfl; first | (apply g_alloc; refine WO_alloc ?_; intro _) | (apply g_store; first | refine WO_store (k := 0) (l0 := []) rfl rfl rfl ?_)) | (refine WP_cond rfl (fun hb => ?_) (fun hb => ?_) <;> (repeat (first | replace hb := dec_t hb | replace hb := dec_f hb)) <;> (try (exfalso; first | omega)))))
      refine ⟨?_⟩
      rename_i b14
      refine WP_cut (fun y : List UInt8 × List Act4 × Value × Int => ([(0, isl eAct script), (1, exI .u8 left.toNat), (4, exB false), (5, ex (.pointer (some ⟨b5, 0, none⟩))), (8, ex (.pointer (some ⟨b8, 0, none⟩))), (9, ex (.pointer (some ⟨b9, 0, none⟩))), (10, ex (.pointer (some ⟨b10, 0, none⟩))), (11, ex y.2.2.1), (12, exI .i64 y.2.2.2), (13, exI .i64 i)], [vec y.2.2.1 46 3 y.2.1.length (y.2.1.flatMap actV), row b10 44 4 ((y.1).map ub), row b9 44 4 ((y.1).map ub), row b8 44 4 ((upd y.1 y.2.1).map ub), row b5 25 4 [isl (eSl eByte) (histD y.1 y.2.1 y.2.2.2).secs, isl eWr (histD y.1 y.2.1 y.2.2.2).pend, exI .i64 (histD y.1 y.2.1 y.2.2.2).left, exB (histD y.1 y.2.1 y.2.2.2).stopped]])) (fun y => y.1.length = 4 ∧ y.2.1.length ≤ i + 1 ∧ 0 ≤ y.2.2.2 ∧ y.2.2.2 ≤ 255) ?_ fun y hy => ?_
      · cases hsy : script[i].sync
        · have hB := double_fr script[i].byte
          have hW := write_fr (histD f W room) ((script[i].at_.toNat % 4 : Nat) : Int) (doubleB script[i].byte) (hist_in (by omega) (by omega)) (by omega)
          rw [write_hist hf (by omega) (by omega) (by omega)] at hW
          (repeat' (first | (apply cut_at 17; refine Stop.out ?_) | refine WP_seq ?_ | refine WP_region ?_ | refine WPL_nil ?_ | (apply WPL_t; (first | (apply g_load; first | exact WT_load (k := 0) rfl rfl rfl rfl) | (apply g_fld; first | exact WT_field rfl rfl rfl) | (apply g_un; first | exact WT_not rfl)); exact rfl) | refine WP_cond_t rfl ?_))
          refine ⟨?_⟩
          refine WP_cutR 17 (fun b15 : Nat => ([(0, isl eAct script), (1, exI .u8 left.toNat), (4, exB false), (5, ex (.pointer (some ⟨b5, 0, none⟩))), (8, ex (.pointer (some ⟨b8, 0, none⟩))), (9, ex (.pointer (some ⟨b9, 0, none⟩))), (10, ex (.pointer (some ⟨b10, 0, none⟩))), (11, ex v), (12, exI .i64 room), (13, exI .i64 i), (14, ex (.pointer (some ⟨b14, 0, none⟩))), (15, ex (.pointer (some ⟨b15, 0, none⟩))), (16, exI .i64 0)], [row b15 25 4 [isl (eSl eByte) (histD f (W ++ [script[i]]) room).secs, isl eWr (histD f (W ++ [script[i]]) room).pend, exI .i64 (histD f (W ++ [script[i]]) room).left, exB (histD f (W ++ [script[i]]) room).stopped], row b14 46 3 [exB false, exI .u8 script[i].at_.toNat, exI .u8 script[i].byte.toNat], vec v 46 3 W.length (W.flatMap actV), row b10 44 4 (f.map ub), row b9 44 4 (f.map ub), row b8 44 4 ((upd f W).map ub), row b5 25 4 [isl (eSl eByte) (histD f W room).secs, isl eWr (histD f W room).pend, exI .i64 (histD f W room).left, exB (histD f W room).stopped]])) (fun _ => True) ?_ fun b15 _ => ?_
          ·
            (refine WP_drawl 13 rfl ?_)
            (apply WPY_take 0 rfl (by decide +kernel) rfl (by decide +kernel) (by repeat (first | exact np_ret)) guard_none; (first | (apply g_load; first | exact WT_loada2 (k := 5) rfl rfl rfl)); exact rfl)
            (apply WPY_pure 1 rfl (by decide +kernel) rfl (by repeat (first | exact np_ret)) guard_none; (first | (apply g_fld; first | exact WT_field rfl rfl rfl)); exact rfl)
            (apply WPY_take 2 rfl (by decide +kernel) rfl (by decide +kernel) (by repeat (first | exact np_ret)) guard_none; (first | (apply g_load; first | exact WT_load (k := 0) rfl rfl rfl rfl)); exact rfl)
            (apply WPY_pure 3 rfl (by decide +kernel) rfl (by repeat (first | exact np_ret)) guard_none; (first | (apply g_bin; first | exact WT_rem rfl rfl)); exact rfl)
            (apply WPY_pure 4 rfl (by decide +kernel) rfl (by repeat (first | exact np_ret)) guard_none; (first | (apply g_conv; first | exact WT_conv rfl rfl rfl)); exact rfl)
            (apply WPY_pure 5 rfl (by decide +kernel) rfl (by repeat (first | exact np_ret)) guard_none; (first | (apply g_fld; first | exact WT_field rfl rfl rfl)); exact rfl)
            (apply WPY_take 6 rfl (by decide +kernel) rfl (by decide +kernel) (by repeat (first | exact np_ret)) guard_none; (first | (apply g_load; first | exact WT_load (k := 0) rfl rfl rfl rfl)); exact rfl)
            (refine WPY_two 7 12 (by decide +kernel) rfl guard_none (fun _ _ h => h) rfl guard_none (fun _ _ h => h) ?_ ?_)
            ·
              (first | (apply g_callf; first | (refine WO_call Try.func27 rfl hB rfl ?_; rintro _ _ ⟨rfl, rfl⟩) | (refine WO_call Try.func19 rfl hW rfl ?_; rintro _ _ ⟨rfl, rfl⟩)))
              (refine WPY_two 8 12 (by decide +kernel) rfl guard_none (fun _ _ h => h) rfl guard_none (fun _ _ h => h) ?_ ?_)
              ·
                (first | (apply g_callf; first | (refine WO_call Try.func27 rfl hB rfl ?_; rintro _ _ ⟨rfl, rfl⟩) | (refine WO_call Try.func19 rfl hW rfl ?_; rintro _ _ ⟨rfl, rfl⟩)))
                (apply WPY_pure 9 rfl (by decide +kernel) rfl (by repeat (first | exact np_ret)) guard_none; (first | exact WT_move rfl); exact rfl)
                (apply WPY_pure 10 rfl (by decide +kernel) rfl (by repeat (first | exact np_ret)) guard_none; (first | exact WT_extract rfl rfl); exact rfl)
                (apply WPY_pure 11 rfl (by decide +kernel) rfl (by repeat (first | exact np_ret)) guard_none; (first | exact WT_extract rfl rfl); exact rfl)
                (refine WPY_one 12 (by decide +kernel) rfl guard_none (fun _ _ h => h) ?_)
                (first | (apply g_alloc; refine WO_alloc ?_; intro _))
                (refine WPY_one (H' := feet []) 13 (by decide +kernel) rfl guard_none (fun h => absurd h (by decide)) ?_)
                (first | (apply g_store; first | refine WO_store (k := 0) (l0 := []) rfl rfl rfl ?_))
                (refine WPY_one (H' := fun _ => True) 14 (by decide +kernel) rfl guard_none (fun _ _ _ => trivial) ?_)
                ((apply WO_t (H := fun _ => True); (first | exact WT_assign rfl); exact rfl))
                refine WPY_done (by decide +kernel) ?_
                exact cut_here _ trivial (Leads_env (by repeat (first | exact sub_nil | refine sub_cons rfl ?_)) (List.Sublist.refl _))
              ·
                (first | (apply g_alloc; refine WO_alloc ?_; intro _))
                (refine WPY_one 8 (by decide +kernel) rfl guard_none (fun _ _ h => h) ?_)
                (first | (apply g_callf; first | (refine WO_call Try.func27 rfl hB rfl ?_; rintro _ _ ⟨rfl, rfl⟩) | (refine WO_call Try.func19 rfl hW rfl ?_; rintro _ _ ⟨rfl, rfl⟩)))
                (apply WPY_pure 9 rfl (by decide +kernel) rfl (by repeat (first | exact np_ret)) guard_none; (first | exact WT_move rfl); exact rfl)
                (apply WPY_pure 10 rfl (by decide +kernel) rfl (by repeat (first | exact np_ret)) guard_none; (first | exact WT_extract rfl rfl); exact rfl)
                (apply WPY_pure 11 rfl (by decide +kernel) rfl (by repeat (first | exact np_ret)) guard_none; (first | exact WT_extract rfl rfl); exact rfl)
                (refine WPY_one (H' := feet []) 13 (by decide +kernel) rfl guard_none (fun h => absurd h (by decide)) ?_)
                (first | (apply g_store; first | refine WO_store (k := 0) (l0 := []) rfl rfl rfl ?_))
                (refine WPY_one (H' := fun _ => True) 14 (by decide +kernel) rfl guard_none (fun _ _ _ => trivial) ?_)
                ((apply WO_t (H := fun _ => True); (first | exact WT_assign rfl); exact rfl))
                refine WPY_done (by decide +kernel) ?_
                exact cut_here _ trivial (Leads_env (by repeat (first | exact sub_nil | refine sub_cons rfl ?_)) (List.Sublist.refl _))
            ·
              (first | (apply g_alloc; refine WO_alloc ?_; intro _))
              (refine WPY_one 7 (by decide +kernel) rfl guard_none (fun _ _ h => h) ?_)
              (first | (apply g_callf; first | (refine WO_call Try.func27 rfl hB rfl ?_; rintro _ _ ⟨rfl, rfl⟩) | (refine WO_call Try.func19 rfl hW rfl ?_; rintro _ _ ⟨rfl, rfl⟩)))
              (refine WPY_one 8 (by decide +kernel) rfl guard_none (fun _ _ h => h) ?_)
              (first | (apply g_callf; first | (refine WO_call Try.func27 rfl hB rfl ?_; rintro _ _ ⟨rfl, rfl⟩) | (refine WO_call Try.func19 rfl hW rfl ?_; rintro _ _ ⟨rfl, rfl⟩)))
              (apply WPY_pure 9 rfl (by decide +kernel) rfl (by repeat (first | exact np_ret)) guard_none; (first | exact WT_move rfl); exact rfl)
              (apply WPY_pure 10 rfl (by decide +kernel) rfl (by repeat (first | exact np_ret)) guard_none; (first | exact WT_extract rfl rfl); exact rfl)
              (apply WPY_pure 11 rfl (by decide +kernel) rfl (by repeat (first | exact np_ret)) guard_none; (first | exact WT_extract rfl rfl); exact rfl)
              (refine WPY_one (H' := feet []) 13 (by decide +kernel) rfl guard_none (fun h => absurd h (by decide)) ?_)
              (first | (apply g_store; first | refine WO_store (k := 0) (l0 := []) rfl rfl rfl ?_))
              (refine WPY_one (H' := fun _ => True) 14 (by decide +kernel) rfl guard_none (fun _ _ _ => trivial) ?_)
              ((apply WO_t (H := fun _ => True); (first | exact WT_assign rfl); exact rfl))
              refine WPY_done (by decide +kernel) ?_
              exact cut_here _ trivial (Leads_env (by repeat (first | exact sub_nil | refine sub_cons rfl ?_)) (List.Sublist.refl _))
          (repeat' (first | refine WP_seq ?_ | refine WP_region ?_ | refine WPL_nil ?_ | (apply WPL_t; (first | exact WT_move rfl | exact WT_assign rfl | (apply g_load; first | exact WT_load (k := 1) rfl rfl rfl rfl | exact WT_loada2 (k := 0) rfl rfl rfl | exact WT_loada2 (k := 1) rfl rfl rfl) | (apply g_fld; first | exact WT_field rfl rfl rfl) | (apply g_bin; first | exact WT_neq rfl rfl | exact WT_rem rfl rfl) | (apply g_index; first | exact WT_indexa rfl rfl rfl)); exact rfl) | refine WP_skip ?_ | refine WP_cond_f rfl ?_ | (apply WPL_op0; exact rfl; first | (apply g_store; first | (refine WO_storeB (k := 5) (l0 := []) rfl rfl rfl ?_; intro _ _ _) | refine WO_store (k := 6) (l0 := []) rfl rfl rfl ?_) | (apply g_append; (first | (refine WO_append (k := 3) (l0 := []) rfl rfl (by first | exact Src_rowW (k := 0) rfl rfl) rfl ?_)); intro _) | (apply g_bslice; (first | refine WO_bslice1 rfl rfl ?_); intro _))))
          rename_i bs2 hbs2 _ b22 v2
          have hup : upd f (W ++ [script[i]]) = bs2 := by rw [upd_snoc, hbs2, over_set _ _ _ (by omega)]; rfl
          have hfl : (W ++ [script[i]]).flatMap actV = W.flatMap actV ++ [exB false, exI .u8 script[i].at_.toNat, exI .u8 script[i].byte.toNat] := by
            rw [List.flatMap_append]
            simp [actV, hsy]
          refine ⟨(f, W ++ [script[i]], v2, room), ⟨hf, by dsimp only; rw [List.length_append, List.length_singleton]; omega, hr0, hr1⟩, ?_⟩
          dsimp only
          rw [hup, hfl, List.length_append, List.length_singleton]
          exact Leads_env (by repeat (first | exact sub_nil | refine sub_cons rfl ?_)) (.cons _ (.cons _ (.cons _ (List.Sublist.refl _))))
        · have hY := sync_fr (histD f W room) (hist_in (by omega) (by omega))
          obtain ⟨n, rfl⟩ := Int.eq_ofNat_of_zero_le hr0
          have hXe : ∃ X e, syncF (histD f W n) = (X, e) ∧ DIn X ∧ ((W.length ≤ n ∧ e = 0 ∧ X = histD (upd f W) [] ((n : Int) - W.length)) ∨ (n < W.length ∧ e = 40 ∧ X.stopped = true ∧ X.left = 0 ∧ Reads4 (restartF X) (upd f (W.take (n + 1))) (upd f (W.take n)))) := by
            by_cases hst : W.length ≤ n
            · exact ⟨_, _, sync_hist hf (by omega) (by omega) (by omega) (by omega), hist_in (by omega) (by omega), .inl ⟨hst, rfl, rfl⟩⟩
            · obtain ⟨X, h1, h2, h3, h4⟩ := stop_hist (f := f) (W := W) (n := n) hf (by omega) (by omega)
              exact ⟨X, 40, h1, ⟨by rw [h3]; decide, by rw [h3]; decide⟩, .inr ⟨by omega, rfl, h2, h3, h4⟩⟩
          obtain ⟨X, e, hX, hXin, hcase⟩ := hXe
          rw [hX] at hY
          refine WP_leads (Leads_fvec (k := 1) (E := eAct) (t := 11) W rfl rfl rfl rfl (hby := by show W.length * 3 ≤ _; omega)) ?_
          (repeat' (first | refine WP_seq ?_ | refine WP_region ?_ | refine WPL_nil ?_ | (apply WPL_t; (first | exact WT_move rfl | exact WT_assign rfl | exact WT_extract rfl rfl | (apply g_load; first | exact WT_load (k := 0) rfl rfl rfl rfl | exact WT_loada2 (k := 4) rfl rfl rfl) | (apply g_fld; first | exact WT_field rfl rfl rfl) | (apply g_bin; first | exact WT_gtr rfl rfl) | (apply g_call; first | exact WT_len rfl rfl) | (apply g_un; first | exact WT_not rfl)); exact rfl) | refine WP_block ?_ | refine WP_cond_f rfl ?_ | (apply WPL_op0; exact rfl; first | (apply g_callf; first | (refine WO_call Try.func23 rfl hY rfl ?_; rintro _ _ ⟨rfl, rfl⟩)) | (apply g_alloc; refine WO_alloc ?_; intro _) | (apply g_store; first | refine WO_store (k := 0) (l0 := []) rfl rfl rfl ?_))))
          rename_i b17
          refine WP_loop (fun k : Nat => ([(0, isl eAct script), (1, exI .u8 left.toNat), (4, exB false), (5, ex (.pointer (some ⟨b5, 0, none⟩))), (8, ex (.pointer (some ⟨b8, 0, none⟩))), (9, ex (.pointer (some ⟨b9, 0, none⟩))), (10, ex (.pointer (some ⟨b10, 0, none⟩))), (11, isl eAct W), (12, exI .i64 n), (13, exI .i64 i), (17, ex (.pointer (some ⟨b17, 0, none⟩))), (18, exI .i64 e), (19, exB (decide ((n : Int) < W.length))), (20, exI .i64 k)], [row b17 25 4 [isl (eSl eByte) X.secs, isl eWr X.pend, exI .i64 X.left, exB X.stopped], row b10 44 4 ((upd f (W.take (min k n))).map ub), row b9 44 4 ((upd f (W.take k)).map ub), row b8 44 4 ((upd f W).map ub), row b5 25 4 [isl (eSl eByte) (histD f W n).secs, isl eWr (histD f W n).pend, exI .i64 (histD f W n).left, exB (histD f W n).stopped]])) (fun k => k ≤ W.length ∧ k ≤ n + 1) (fun k => W.length - k) 0 ?_ ⟨Nat.zero_le _, Nat.zero_le _⟩ fun k hk => ?_
          · dsimp only
            rw [Nat.zero_min, List.take_zero, show upd f [] = f by unfold upd; rfl]
            exact Leads_env (by repeat (first | exact sub_nil | refine sub_cons rfl ?_)) (.cons_cons _ (.cons _ (List.Sublist.refl _)))
          obtain ⟨hkW, hkn⟩ := hk
          have hl1 : (upd f (W.take k)).length = 4 := by rw [upd_len, hf]
          have hl2 : (upd f (W.take (min k n))).length = 4 := by rw [upd_len, hf]
          by_cases hgo : k < W.length ∧ k ≤ n
          · obtain ⟨hk1, hk2⟩ := hgo
            have hut := upd_take f W k hk1
            by_cases hkr : k < n
            · rw [show min k n = k by omega]
              (repeat' (first | refine WP_seq ?_ | refine WP_region ?_ | refine WPL_nil ?_ | (apply WPL_t; (first | exact WT_move rfl | exact WT_pick (b := true) rfl (fun _ => rfl) (fun e => by cases e) | (apply g_bin; first | exact WT_lss rfl rfl) | (apply g_call; first | exact WT_len rfl rfl)); exact rfl) | (apply WPL_gt; exact rfl; exact rfl; exact rfl; (first | exact WT_move rfl | (apply g_bin; first | exact WT_leq rfl rfl)); exact rfl) | refine WP_block ?_ | refine WP_skip ?_ | (refine WPL_case rfl rfl (fun hb => ?_) (fun hb => ?_) <;> (repeat (first | replace hb := dec_t hb | replace hb := dec_f hb)) <;> (try (exfalso; first | omega))) | (refine WP_cond rfl (fun hb => ?_) (fun hb => ?_) <;> (repeat (first | replace hb := dec_t hb | replace hb := dec_f hb)) <;> (try (exfalso; first | omega)))))
              (refine WP_drawl 12 rfl ?_)
              all_goals ((apply WPY_pure 0 rfl (by decide +kernel) rfl (by repeat (first | exact np_ret)) guard_none; (first | exact WT_move rfl); exact rfl))
              all_goals ((apply WPY_pure 1 rfl (by decide +kernel) rfl (by repeat (first | exact np_ret)) guard_none; (first | exact WT_move rfl); exact rfl))
              all_goals ((apply WPY_pure 2 rfl (by decide +kernel) rfl (by repeat (first | exact np_ret)) guard_none; (first | (apply g_index; first | exact WT_index rfl rfl rfl)); exact rfl))
              all_goals ((apply WPY_pure 3 rfl (by decide +kernel) rfl (by repeat (first | exact np_ret)) guard_none; (first | (apply g_fld; first | exact WT_fieldf rfl rfl rfl)); exact rfl))
              all_goals ((apply WPY_take 4 rfl (by decide +kernel) rfl (by decide +kernel) (by repeat (first | exact np_ret)) guard_none; (first | (apply g_load; first | exact WT_loadf rfl rfl)); exact rfl))
              all_goals ((apply WPY_pure 5 rfl (by decide +kernel) rfl (by repeat (first | exact np_ret)) guard_none; (first | (apply g_bin; first | exact WT_rem rfl rfl)); exact rfl))
              all_goals ((apply WPY_pure 6 rfl (by decide +kernel) rfl (by repeat (first | exact np_ret)) guard_none; (first | exact WT_move rfl); exact rfl))
              all_goals ((apply WPY_pure 7 rfl (by decide +kernel) rfl (by repeat (first | exact np_ret)) guard_none; (first | exact WT_move rfl); exact rfl))
              all_goals ((apply WPY_pure 8 rfl (by decide +kernel) rfl (by repeat (first | exact np_ret)) guard_none; (first | (apply g_index; first | exact WT_index rfl rfl rfl)); exact rfl))
              all_goals ((apply WPY_pure 9 rfl (by decide +kernel) rfl (by repeat (first | exact np_ret)) guard_none; (first | (apply g_fld; first | exact WT_fieldf rfl rfl rfl)); exact rfl))
              all_goals ((apply WPY_take 10 rfl (by decide +kernel) rfl (by decide +kernel) (by repeat (first | exact np_ret)) guard_none; (first | (apply g_load; first | exact WT_loadf rfl rfl)); exact rfl))
              all_goals ((apply WPY_pure 11 rfl (by decide +kernel) rfl (by repeat (first | exact np_ret)) guard_none; (first | (apply g_index; first | exact WT_indexa rfl rfl rfl)); exact rfl))
              all_goals (first | (apply WPY_one 12; exact (by decide +kernel); exact rfl; exact guard_none; exact (fun h => absurd h (by decide)); first | (apply g_store; first | (refine WO_storeB (k := 2) (l0 := []) rfl rfl rfl ?_; intro _ _ _))))
              all_goals (refine WPY_done (by decide +kernel) ?_)
              all_goals ((repeat' (first | refine WP_seq ?_ | refine WP_region ?_ | refine WPL_nil ?_ | (apply WPL_t; (first | exact WT_move rfl | (apply g_bin; first | exact WT_lss rfl rfl)); exact rfl) | (refine WP_cond rfl (fun hb => ?_) (fun hb => ?_) <;> (repeat (first | replace hb := dec_t hb | replace hb := dec_f hb)) <;> (try (exfalso; first | omega))))))
              all_goals (try (exfalso; omega))
              (refine WP_drawl 12 rfl ?_)
              all_goals ((apply WPY_pure 0 rfl (by decide +kernel) rfl (by repeat (first | exact np_ret)) guard_none; (first | exact WT_move rfl); exact rfl))
              all_goals ((apply WPY_pure 1 rfl (by decide +kernel) rfl (by repeat (first | exact np_ret)) guard_none; (first | exact WT_move rfl); exact rfl))
              all_goals ((apply WPY_pure 2 rfl (by decide +kernel) rfl (by repeat (first | exact np_ret)) guard_none; (first | (apply g_index; first | exact WT_index rfl rfl rfl)); exact rfl))
              all_goals ((apply WPY_pure 3 rfl (by decide +kernel) rfl (by repeat (first | exact np_ret)) guard_none; (first | (apply g_fld; first | exact WT_fieldf rfl rfl rfl)); exact rfl))
              all_goals ((apply WPY_take 4 rfl (by decide +kernel) rfl (by decide +kernel) (by repeat (first | exact np_ret)) guard_none; (first | (apply g_load; first | exact WT_loadf rfl rfl)); exact rfl))
              all_goals ((apply WPY_pure 5 rfl (by decide +kernel) rfl (by repeat (first | exact np_ret)) guard_none; (first | (apply g_bin; first | exact WT_rem rfl rfl)); exact rfl))
              all_goals ((apply WPY_pure 6 rfl (by decide +kernel) rfl (by repeat (first | exact np_ret)) guard_none; (first | exact WT_move rfl); exact rfl))
              all_goals ((apply WPY_pure 7 rfl (by decide +kernel) rfl (by repeat (first | exact np_ret)) guard_none; (first | exact WT_move rfl); exact rfl))
              all_goals ((apply WPY_pure 8 rfl (by decide +kernel) rfl (by repeat (first | exact np_ret)) guard_none; (first | (apply g_index; first | exact WT_index rfl rfl rfl)); exact rfl))
              all_goals ((apply WPY_pure 9 rfl (by decide +kernel) rfl (by repeat (first | exact np_ret)) guard_none; (first | (apply g_fld; first | exact WT_fieldf rfl rfl rfl)); exact rfl))
              all_goals ((apply WPY_take 10 rfl (by decide +kernel) rfl (by decide +kernel) (by repeat (first | exact np_ret)) guard_none; (first | (apply g_load; first | exact WT_loadf rfl rfl)); exact rfl))
              all_goals ((apply WPY_pure 11 rfl (by decide +kernel) rfl (by repeat (first | exact np_ret)) guard_none; (first | (apply g_index; first | exact WT_indexa rfl rfl rfl)); exact rfl))
              all_goals (first | (apply WPY_one 12; exact (by decide +kernel); exact rfl; exact guard_none; exact (fun h => absurd h (by decide)); first | (apply g_store; first | (refine WO_storeB (k := 1) (l0 := []) rfl rfl rfl ?_; intro _ _ _))))
              all_goals (refine WPY_done (by decide +kernel) ?_)
              all_goals ((repeat' (first | refine WP_region ?_ | refine WPL_nil ?_ | (apply WPL_t; (first | exact WT_move rfl | exact WT_assign rfl | (apply g_bin; first | exact WT_add rfl rfl)); exact rfl))))
              rename_i bs3 hbs3 _ bs4 hbs4 _
              refine ⟨k + 1, ⟨by omega, by omega⟩, by omega, ?_⟩
              have e3 : bs3 = upd f (W.take (k + 1)) := by rw [hbs3, hut, over_set _ _ _ (by omega)]; rfl
              have e4 : bs4 = upd f (W.take (k + 1)) := by rw [hbs4, hut, over_set _ _ _ (by omega)]; rfl
              obtain rfl : bs4 = bs3 := e4.trans e3.symm
              dsimp only
              rw [show min (k + 1) n = k + 1 by omega, ← e3]
              exact Leads_env (by repeat (first | exact sub_nil | refine sub_cons rfl ?_)) (List.Sublist.refl _)
            · (repeat' (first | refine WP_seq ?_ | refine WP_region ?_ | refine WPL_nil ?_ | (apply WPL_t; (first | exact WT_move rfl | exact WT_pick (b := true) rfl (fun _ => rfl) (fun e => by cases e) | (apply g_bin; first | exact WT_lss rfl rfl) | (apply g_call; first | exact WT_len rfl rfl)); exact rfl) | (apply WPL_gt; exact rfl; exact rfl; exact rfl; (first | exact WT_move rfl | (apply g_bin; first | exact WT_leq rfl rfl)); exact rfl) | refine WP_block ?_ | refine WP_skip ?_ | (refine WPL_case rfl rfl (fun hb => ?_) (fun hb => ?_) <;> (repeat (first | replace hb := dec_t hb | replace hb := dec_f hb)) <;> (try (exfalso; first | omega))) | (refine WP_cond rfl (fun hb => ?_) (fun hb => ?_) <;> (repeat (first | replace hb := dec_t hb | replace hb := dec_f hb)) <;> (try (exfalso; first | omega)))))
              (refine WP_drawl 12 rfl ?_)
              all_goals ((apply WPY_pure 0 rfl (by decide +kernel) rfl (by repeat (first | exact np_ret)) guard_none; (first | exact WT_move rfl); exact rfl))
              all_goals ((apply WPY_pure 1 rfl (by decide +kernel) rfl (by repeat (first | exact np_ret)) guard_none; (first | exact WT_move rfl); exact rfl))
              all_goals ((apply WPY_pure 2 rfl (by decide +kernel) rfl (by repeat (first | exact np_ret)) guard_none; (first | (apply g_index; first | exact WT_index rfl rfl rfl)); exact rfl))
              all_goals ((apply WPY_pure 3 rfl (by decide +kernel) rfl (by repeat (first | exact np_ret)) guard_none; (first | (apply g_fld; first | exact WT_fieldf rfl rfl rfl)); exact rfl))
              all_goals ((apply WPY_take 4 rfl (by decide +kernel) rfl (by decide +kernel) (by repeat (first | exact np_ret)) guard_none; (first | (apply g_load; first | exact WT_loadf rfl rfl)); exact rfl))
              all_goals ((apply WPY_pure 5 rfl (by decide +kernel) rfl (by repeat (first | exact np_ret)) guard_none; (first | (apply g_bin; first | exact WT_rem rfl rfl)); exact rfl))
              all_goals ((apply WPY_pure 6 rfl (by decide +kernel) rfl (by repeat (first | exact np_ret)) guard_none; (first | exact WT_move rfl); exact rfl))
              all_goals ((apply WPY_pure 7 rfl (by decide +kernel) rfl (by repeat (first | exact np_ret)) guard_none; (first | exact WT_move rfl); exact rfl))
              all_goals ((apply WPY_pure 8 rfl (by decide +kernel) rfl (by repeat (first | exact np_ret)) guard_none; (first | (apply g_index; first | exact WT_index rfl rfl rfl)); exact rfl))
              all_goals ((apply WPY_pure 9 rfl (by decide +kernel) rfl (by repeat (first | exact np_ret)) guard_none; (first | (apply g_fld; first | exact WT_fieldf rfl rfl rfl)); exact rfl))
              all_goals ((apply WPY_take 10 rfl (by decide +kernel) rfl (by decide +kernel) (by repeat (first | exact np_ret)) guard_none; (first | (apply g_load; first | exact WT_loadf rfl rfl)); exact rfl))
              all_goals ((apply WPY_pure 11 rfl (by decide +kernel) rfl (by repeat (first | exact np_ret)) guard_none; (first | (apply g_index; first | exact WT_indexa rfl rfl rfl)); exact rfl))
              all_goals (first | (apply WPY_one 12; exact (by decide +kernel); exact rfl; exact guard_none; exact (fun h => absurd h (by decide)); first | (apply g_store; first | (refine WO_storeB (k := 2) (l0 := []) rfl rfl rfl ?_; intro _ _ _))))
              all_goals (refine WPY_done (by decide +kernel) ?_)
              all_goals ((repeat' (first | refine WP_seq ?_ | refine WP_region ?_ | refine WPL_nil ?_ | (apply WPL_t; (first | exact WT_move rfl | exact WT_assign rfl | (apply g_bin; first | exact WT_lss rfl rfl | exact WT_add rfl rfl)); exact rfl) | refine WP_skip ?_ | (refine WP_cond rfl (fun hb => ?_) (fun hb => ?_) <;> (repeat (first | replace hb := dec_t hb | replace hb := dec_f hb)) <;> (try (exfalso; first | omega))))))
              all_goals (try (exfalso; omega))
              rename_i bs3 hbs3 _
              refine ⟨k + 1, ⟨by omega, by omega⟩, by omega, ?_⟩
              have e3 : bs3 = upd f (W.take (k + 1)) := by rw [hbs3, hut, over_set _ _ _ (by omega)]; rfl
              dsimp only
              rw [show min (k + 1) n = min k n by omega, ← e3]
              exact Leads_env (by repeat (first | exact sub_nil | refine sub_cons rfl ?_)) (List.Sublist.refl _)
          · by_cases hst : W.length ≤ n
            · have hk9 : k = W.length := by omega
              subst hk9
              have hcase' : e = 0 ∧ X = histD (upd f W) [] ((n : Int) - W.length) := by
                rcases hcase with ⟨_, h⟩ | ⟨h, _⟩
                · exact h
                · omega
              obtain ⟨rfl, rfl⟩ := hcase'
              rw [show min W.length n = W.length by omega, List.take_length]
              (repeat' (first | refine WP_seq ?_ | refine WP_region ?_ | refine WPL_nil ?_ | (apply WPL_t; (first | exact WT_move rfl | exact WT_assign rfl | exact WT_pick (b := false) rfl (fun e => by cases e) (fun _ => rfl) | (apply g_load; first | exact WT_loada2 (k := 1) rfl rfl rfl) | (apply g_bin; first | exact WT_lss rfl rfl | exact WT_neq rfl rfl | exact WT_sub rfl rfl) | (apply g_call; first | exact WT_len rfl rfl)); exact rfl) | (refine WPL_off rfl rfl rfl rfl rfl ?_) | refine WP_skip ?_ | refine WP_exit ?_ | refine WP_cond_f rfl ?_ | (apply WPL_op0; exact rfl; first | (apply g_store; first | refine WO_store (k := 5) (l0 := []) rfl rfl rfl ?_) | (apply g_bslice; (first | refine WO_bslice0 rfl ?_); intro _)) | (refine WPL_case rfl rfl (fun hb => ?_) (fun hb => ?_) <;> (repeat (first | replace hb := dec_t hb | replace hb := dec_f hb)) <;> (try (exfalso; first | omega))) | (refine WP_cond rfl (fun hb => ?_) (fun hb => ?_) <;> (repeat (first | replace hb := dec_t hb | replace hb := dec_f hb)) <;> (try (exfalso; first | omega)))))
              all_goals (try (exfalso; omega))
              rename_i b36
              refine ⟨(upd f W, [], .slice (some ⟨b36, 0, none⟩) 0 0, (n : Int) - W.length), ⟨hul, Nat.zero_le _, by dsimp only; omega, by dsimp only; omega⟩, ?_⟩
              dsimp only
              rw [show upd (upd f W) [] = upd f W by unfold upd; rfl]
              exact Leads.trans ((LeadsS_row_vec (k := 0) (c := 0) (n := 0) (sz := 3) rfl rfl rfl (by decide) (by decide)).leads) (Leads_env (by repeat (first | exact sub_nil | refine sub_cons rfl ?_)) (.cons_cons _ (.cons _ (List.Sublist.refl _))))
            · have hk9 : k = n + 1 := by omega
              subst hk9
              have hcase' : e = 40 ∧ X.stopped = true ∧ Reads4 (restartF X) (upd f (W.take (n + 1))) (upd f (W.take n)) := by
                rcases hcase with ⟨h, _⟩ | ⟨_, h1, h2, _, h3⟩
                · omega
                · exact ⟨h1, h2, h3⟩
              obtain ⟨rfl, hXs, hXr⟩ := hcase'
              rw [show min (n + 1) n = n by omega, hXs]
              have hR := restart_fr X hXin
              rw [show dsk X = agg [isl (eSl eByte) X.secs, isl eWr X.pend, exI .i64 X.left, exB true] by rw [← hXs]] at hR
              have hH := holds_fr (restartF X) ⟨by show _ ≤ (-1 : Int); decide, by show (-1 : Int) ≤ _; decide⟩ (upd f (W.take (n + 1))) (upd f (W.take n)) hl1 (by rw [upd_len, hf]) hXr
              have hl3 : (upd f (W.take n)).length = 4 := by rw [upd_len, hf]
              by_cases hlt2 : n + 1 < W.length
              · (repeat' (first | refine WP_seq ?_ | refine WP_region ?_ | refine WPL_nil ?_ | (apply WPL_t; (first | exact WT_move rfl | exact WT_pick (b := true) rfl (fun _ => rfl) (fun e => by cases e) | (apply g_bin; first | exact WT_lss rfl rfl) | (apply g_call; first | exact WT_len rfl rfl)); exact rfl) | (apply WPL_gt; exact rfl; exact rfl; exact rfl; (first | exact WT_move rfl | (apply g_bin; first | exact WT_leq rfl rfl)); exact rfl) | refine WP_exit ?_ | (refine WPL_case rfl rfl (fun hb => ?_) (fun hb => ?_) <;> (repeat (first | replace hb := dec_t hb | replace hb := dec_f hb)) <;> (try (exfalso; first | omega))) | (refine WP_cond rfl (fun hb => ?_) (fun hb => ?_) <;> (repeat (first | replace hb := dec_t hb | replace hb := dec_f hb)) <;> (try (exfalso; first | omega)))))
                all_goals (try (exfalso; omega))
                (refine WP_drawl 14 rfl ?_)
                all_goals ((apply WPY_pure 0 rfl (by decide +kernel) rfl (by repeat (first | exact np_ret)) guard_none; (first | exact WT_move rfl); exact rfl))
                all_goals ((apply WPY_pure 1 rfl (by decide +kernel) rfl (by repeat (first | exact np_ret)) guard_none; (first | (apply g_bin; first | exact WT_eql rfl rfl)); exact rfl))
                all_goals ((apply WPY_pure 2 rfl (by decide +kernel) rfl (by repeat (first | exact np_ret)) guard_none; (first | exact WT_move rfl); exact rfl))
                all_goals (first | (refine WPY_case 134 rfl (fun hb => ?_) (fun hb => ?_) <;> (repeat (first | replace hb := dec_t hb | replace hb := dec_f hb | replace hb := not_t hb | replace hb := not_f hb)) <;> (try (exfalso; first | (cases hb; done) | omega))) | skip)
                all_goals (first | (apply WPY_pure 3 rfl (by decide +kernel) rfl (by repeat (first | exact np_ret)) (guard_some rfl rfl rfl); (first | (apply g_fld; first | exact WT_field rfl rfl rfl)); exact rfl))
                all_goals (first | (apply WPY_take 4 rfl (by decide +kernel) rfl (by decide +kernel) (by repeat (first | exact np_ret)) (guard_some rfl rfl rfl); (first | (apply g_load; first | exact WT_load (k := 0) rfl rfl rfl rfl)); exact rfl))
                all_goals ((apply WPY_pure 5 rfl (by decide +kernel) rfl (by repeat (first | exact np_ret)) guard_none; (first | exact WT_pick (b := true) rfl (fun _ => rfl) (fun e => by cases e)); exact rfl))
                all_goals ((apply WPY_pure 6 rfl (by decide +kernel) rfl (by repeat (first | exact np_ret)) guard_none; (first | exact WT_move rfl); exact rfl))
                all_goals (first | (refine WPY_case 138 rfl (fun hb => ?_) (fun hb => ?_) <;> (repeat (first | replace hb := dec_t hb | replace hb := dec_f hb | replace hb := not_t hb | replace hb := not_f hb)) <;> (try (exfalso; first | (cases hb; done) | omega))) | skip)
                all_goals (first | (apply WPY_take 7 rfl (by decide +kernel) rfl (by decide +kernel) (by repeat (first | exact np_ret)) (guard_some rfl rfl rfl); (first | (apply g_load; first | exact WT_loada2 (k := 0) rfl rfl rfl)); exact rfl))
                all_goals (first | (apply WPY_take 9 rfl (by decide +kernel) rfl (by decide +kernel) (by repeat (first | exact np_ret)) (guard_some rfl rfl rfl); (first | (apply g_load; first | exact WT_loadarr (k := 2) rfl rfl (by assumption) rfl)); exact rfl))
                all_goals (first | (apply WPY_take 10 rfl (by decide +kernel) rfl (by decide +kernel) (by repeat (first | exact np_ret)) (guard_some rfl rfl rfl); (first | (apply g_load; first | exact WT_loadarr (k := 1) rfl rfl (by assumption) rfl)); exact rfl))
                all_goals (first | (apply WPY_one 8; exact (by decide +kernel); exact rfl; exact (guard_some rfl rfl rfl); exact (fun _ _ h => h); first | (apply g_callf; first | (refine WO_call Try.func17 rfl hR rfl ?_; rintro _ _ ⟨rfl, rfl⟩))))
                all_goals (first | (apply WPY_one 11; exact (by decide +kernel); exact rfl; exact (guard_some rfl rfl rfl); exact (fun _ _ h => h); first | (apply g_callf; first | (refine WO_call Try.func28 rfl hH rfl ?_; rintro _ _ ⟨rfl, rfl⟩))))
                all_goals ((apply WPY_pure 12 rfl (by decide +kernel) rfl (by repeat (first | exact np_ret)) guard_none; (first | exact WT_pick (b := true) rfl (fun _ => rfl) (fun e => by cases e)); exact rfl))
                all_goals ((apply WPY_pure 13 rfl (by decide +kernel) rfl (by repeat (first | exact np_ret)) guard_none; (first | exact WT_assign rfl); exact rfl))
                all_goals (refine WPY_done (by decide +kernel) ?_)
                all_goals ((repeat' (first | refine WP_ret ?_)))
                all_goals (exact ⟨.inr rfl, ret1 rfl (.tmp rfl) (List.nil_sublist _) ⟨rfl, rfl⟩⟩)
              · (repeat' (first | refine WP_seq ?_ | refine WP_region ?_ | refine WPL_nil ?_ | (apply WPL_t; (first | exact WT_move rfl | exact WT_pick (b := false) rfl (fun e => by cases e) (fun _ => rfl) | (apply g_bin; first | exact WT_lss rfl rfl) | (apply g_call; first | exact WT_len rfl rfl)); exact rfl) | (refine WPL_off rfl rfl rfl rfl rfl ?_) | refine WP_exit ?_ | refine WP_cond_f rfl ?_ | (refine WPL_case rfl rfl (fun hb => ?_) (fun hb => ?_) <;> (repeat (first | replace hb := dec_t hb | replace hb := dec_f hb)) <;> (try (exfalso; first | omega))) | (refine WP_cond rfl (fun hb => ?_) (fun hb => ?_) <;> (repeat (first | replace hb := dec_t hb | replace hb := dec_f hb)) <;> (try (exfalso; first | omega)))))
                all_goals (try (exfalso; omega))
                (refine WP_drawl 14 rfl ?_)
                all_goals ((apply WPY_pure 0 rfl (by decide +kernel) rfl (by repeat (first | exact np_ret)) guard_none; (first | exact WT_move rfl); exact rfl))
                all_goals ((apply WPY_pure 1 rfl (by decide +kernel) rfl (by repeat (first | exact np_ret)) guard_none; (first | (apply g_bin; first | exact WT_eql rfl rfl)); exact rfl))
                all_goals ((apply WPY_pure 2 rfl (by decide +kernel) rfl (by repeat (first | exact np_ret)) guard_none; (first | exact WT_move rfl); exact rfl))
                all_goals (first | (refine WPY_case 134 rfl (fun hb => ?_) (fun hb => ?_) <;> (repeat (first | replace hb := dec_t hb | replace hb := dec_f hb | replace hb := not_t hb | replace hb := not_f hb)) <;> (try (exfalso; first | (cases hb; done) | omega))) | skip)
                all_goals (first | (apply WPY_pure 3 rfl (by decide +kernel) rfl (by repeat (first | exact np_ret)) (guard_some rfl rfl rfl); (first | (apply g_fld; first | exact WT_field rfl rfl rfl)); exact rfl))
                all_goals (first | (apply WPY_take 4 rfl (by decide +kernel) rfl (by decide +kernel) (by repeat (first | exact np_ret)) (guard_some rfl rfl rfl); (first | (apply g_load; first | exact WT_load (k := 0) rfl rfl rfl rfl)); exact rfl))
                all_goals ((apply WPY_pure 5 rfl (by decide +kernel) rfl (by repeat (first | exact np_ret)) guard_none; (first | exact WT_pick (b := true) rfl (fun _ => rfl) (fun e => by cases e)); exact rfl))
                all_goals ((apply WPY_pure 6 rfl (by decide +kernel) rfl (by repeat (first | exact np_ret)) guard_none; (first | exact WT_move rfl); exact rfl))
                all_goals (first | (refine WPY_case 138 rfl (fun hb => ?_) (fun hb => ?_) <;> (repeat (first | replace hb := dec_t hb | replace hb := dec_f hb | replace hb := not_t hb | replace hb := not_f hb)) <;> (try (exfalso; first | (cases hb; done) | omega))) | skip)
                all_goals (first | (apply WPY_take 7 rfl (by decide +kernel) rfl (by decide +kernel) (by repeat (first | exact np_ret)) (guard_some rfl rfl rfl); (first | (apply g_load; first | exact WT_loada2 (k := 0) rfl rfl rfl)); exact rfl))
                all_goals (first | (apply WPY_take 9 rfl (by decide +kernel) rfl (by decide +kernel) (by repeat (first | exact np_ret)) (guard_some rfl rfl rfl); (first | (apply g_load; first | exact WT_loadarr (k := 2) rfl rfl (by assumption) rfl)); exact rfl))
                all_goals (first | (apply WPY_take 10 rfl (by decide +kernel) rfl (by decide +kernel) (by repeat (first | exact np_ret)) (guard_some rfl rfl rfl); (first | (apply g_load; first | exact WT_loadarr (k := 1) rfl rfl (by assumption) rfl)); exact rfl))
                all_goals (first | (apply WPY_one 8; exact (by decide +kernel); exact rfl; exact (guard_some rfl rfl rfl); exact (fun _ _ h => h); first | (apply g_callf; first | (refine WO_call Try.func17 rfl hR rfl ?_; rintro _ _ ⟨rfl, rfl⟩))))
                all_goals (first | (apply WPY_one 11; exact (by decide +kernel); exact rfl; exact (guard_some rfl rfl rfl); exact (fun _ _ h => h); first | (apply g_callf; first | (refine WO_call Try.func28 rfl hH rfl ?_; rintro _ _ ⟨rfl, rfl⟩))))
                all_goals ((apply WPY_pure 12 rfl (by decide +kernel) rfl (by repeat (first | exact np_ret)) guard_none; (first | exact WT_pick (b := true) rfl (fun _ => rfl) (fun e => by cases e)); exact rfl))
                all_goals ((apply WPY_pure 13 rfl (by decide +kernel) rfl (by repeat (first | exact np_ret)) guard_none; (first | exact WT_assign rfl); exact rfl))
                all_goals (refine WPY_done (by decide +kernel) ?_)
                all_goals ((repeat' (first | refine WP_ret ?_)))
                all_goals (exact ⟨.inr rfl, ret1 rfl (.tmp rfl) (List.nil_sublist _) ⟨rfl, rfl⟩⟩)
      · obtain ⟨f2, W2, v2, room2⟩ := y
        obtain ⟨g1, g2, g3, g4⟩ := hy
        dsimp only at g1 g2 g3 g4 ⊢
        have g5 : (upd f2 W2).length = 4 := by rw [upd_len, g1]
        have hH := holds_fr (histD f2 W2 room2) (hist_in (by omega) (by omega)) (upd f2 W2) (upd f2 W2) g5 g5 (reads_hist g1 (by omega) (by omega) (by omega))
        (repeat' (first | refine WP_seq ?_ | refine WP_region ?_ | refine WPL_nil ?_ | (apply WPL_t; (first | exact WT_move rfl | exact WT_assign rfl | (apply g_load; first | exact WT_loada2 (k := 4) rfl rfl rfl | exact WT_loadarr (k := 3) rfl rfl (by assumption) rfl) | (apply g_bin; first | exact WT_add rfl rfl) | (apply g_un; first | exact WT_not rfl)); exact rfl) | refine WP_skip ?_ | refine WP_cond_f rfl ?_ | (apply WPL_op0; exact rfl; first | (apply g_callf; first | (refine WO_call Try.func28 rfl hH rfl ?_; rintro _ _ ⟨rfl, rfl⟩)))))
        exact ⟨(i + 1, f2, W2, v2, room2), ⟨by dsimp only; omega, g1, g2, g3, g4⟩, by dsimp only; omega, Leads_env (by repeat (first | exact sub_nil | refine sub_cons rfl ?_)) (List.Sublist.refl _)⟩
    · have hR := restart_fr (histD f W room) (hist_in (by omega) (by omega))
      have hH := holds_fr (restartF (histD f W room)) (by rw [restart_hist]; exact hist_in (by decide) (by decide)) f f hf hf (by
        have := reads_hist (f := f) (W := []) (room := -1) hf (by decide) (by decide) (by decide)
        rw [restart_hist]
        rwa [show upd f [] = f by unfold upd; rfl] at this)
      (repeat' (first | refine WP_seq ?_ | refine WP_region ?_ | refine WPL_nil ?_ | (apply WPL_t; (first | exact WT_move rfl | (apply g_bin; first | exact WT_lss rfl rfl) | (apply g_call; first | exact WT_len rfl rfl)); exact rfl) | refine WP_exit ?_ | (refine WP_cond rfl (fun hb => ?_) (fun hb => ?_) <;> (repeat (first | replace hb := dec_t hb | replace hb := dec_f hb)) <;> (try (exfalso; first | omega)))))
      all_goals (try (exfalso; omega))
      (refine WP_drawl 6 rfl ?_)
      all_goals ((apply WPY_take 0 rfl (by decide +kernel) rfl (by decide +kernel) (by repeat (first | exact np_ret)) guard_none; (first | (apply g_load; first | exact WT_loada2 (k := 4) rfl rfl rfl)); exact rfl))
      all_goals ((apply WPY_take 2 rfl (by decide +kernel) rfl (by decide +kernel) (by repeat (first | exact np_ret)) guard_none; (first | (apply g_load; first | exact WT_loadarr (k := 2) rfl rfl (by assumption) rfl)); exact rfl))
      all_goals ((apply WPY_take 3 rfl (by decide +kernel) rfl (by decide +kernel) (by repeat (first | exact np_ret)) guard_none; (first | (apply g_load; first | exact WT_loadarr (k := 1) rfl rfl (by assumption) rfl)); exact rfl))
      all_goals (first | (apply WPY_one 1; exact (by decide +kernel); exact rfl; exact guard_none; exact (fun _ _ h => h); first | (apply g_callf; first | (refine WO_call Try.func17 rfl hR rfl ?_; rintro _ _ ⟨rfl, rfl⟩))))
      all_goals (first | (apply WPY_one 4; exact (by decide +kernel); exact rfl; exact guard_none; exact (fun _ _ h => h); first | (apply g_callf; first | (refine WO_call Try.func28 rfl hH rfl ?_; rintro _ _ ⟨rfl, rfl⟩))))
      all_goals ((apply WPY_pure 5 rfl (by decide +kernel) rfl (by repeat (first | exact np_ret)) guard_none; (first | exact WT_assign rfl); exact rfl))
      all_goals (refine WPY_done (by decide +kernel) ?_)
      all_goals ((repeat' (first | refine WP_ret ?_)))
      all_goals (exact ⟨.inr rfl, ret1 rfl (.tmp rfl) (List.nil_sublist _) ⟨rfl, rfl⟩⟩)
  · (repeat' (first | refine WP_seq ?_ | refine WP_region ?_ | refine WPL_nil ?_ | (apply WPL_t; (first | exact WT_move rfl | exact WT_assign rfl | (apply g_bin; first | exact WT_gtr rfl rfl) | (apply g_call; first | exact WT_len rfl rfl) | (apply g_un; first | exact WT_not rfl)); exact rfl) | refine WP_skip ?_ | refine WP_ret ?_ | refine WP_cond_f rfl ?_ | (apply WPL_op0; exact rfl; first | (apply g_callf; first | (refine WO_call Try.func10 rfl sane_fr rfl ?_; rintro _ _ ⟨rfl, rfl⟩))) | (refine WP_cond rfl (fun hb => ?_) (fun hb => ?_) <;> (repeat (first | replace hb := dec_t hb | replace hb := dec_f hb)) <;> (try (exfalso; first | omega)))))
    all_goals (try (exfalso; omega))
    all_goals (exact ⟨.inr rfl, ret1 rfl (.tmp rfl) (List.nil_sublist _) ⟨rfl, rfl⟩⟩)

theorem history_run (W : World) (a : Option Addr) (n c : Nat) (script : List Act4) (left : UInt8) (h : Sl eAct (fun _ => True) W a n c script) :
    Calls Try.prog 6 #[.slice a n c, .int .u8 left.toNat] W fun e w' => e = .returned (.bool true) ∧ Below W.heap.size W w' :=
  law_of (history_any script left) (.cons ⟨a, n, c, rfl, h⟩ (.cons rfl .nil))

end Go.Proofs.Ytckcdokfhdckhaa
