/- Chapter 03: the scanner's add. -/
import Derived.Test.YtdpabdbeecbnmaaDoorPart4
import Derived.Test.YtdpabdbeecbnmaaDoorProg
import Derived.Test.YtdpabdbeecbnmaaDoorPart2
import Derived.Test.YtdpabdbeecbnmaaDoorRows
import Derived.Test.YtdpabdbeecbnmaaDoorCards
import Derived.Test.YtdpabdbeecbnmaaDoorTie
import Derived.Test.YtdpabdbeecbnmaaDoorPart3
import Derived.Shelf.Strings.OnBuilder
import Derived.Shelf.Small.Strs
import Derived.Shelf.LaysM
import Derived.Shelf.Strconv.Itoa3
import Derived.Shelf.LaysC
import Derived.Shelf.Strconv.AtoiAll
import Derived.Shelf.Strings.Search1
import Derived.Shelf.Strings.Prefix
import Derived.Lib.Join
import Derived.LaidLaws
import Derived.ProofKit
import Derived.WideLaws
-- STRINGS
-- ROWS
-- PRUNEC
-- IFACE
namespace Go.Fr
open Go.RowKit Go.Kx Go.Lx
/-- A panic with a place. -/
def placeP (T : TypeId) (at_ : Nat) (ch : List PanicEntry) (loc : List Ent) : Prop := ch = [{ v := .iface T (.int .i64 (at_ : Int)), recovered := false }] ∧ loc = []
theorem panic_then {f : Env → List Ent → Prop} {Q : Post} {ch : List PanicEntry} {env : Env} {loc : List Ent} (h : Q (.panic ch) env loc) : thenP f Q (.panic ch) env loc := h
end Go.Fr
namespace Go.Proofs.YtdpabdbeecbnmaaDoor
open Go Go.RowKit Go.Kx Go.Fr Go.Lx
/-- A scanner and its tokens. -/
def scanL (b at_ : Nat) (s : List UInt8) (oa : Option Addr) (c : Nat) (acc : List TokD) : List Ent := [row b 49 3 [exT s, exI .i64 (at_ : Int), ex (.slice oa acc.length c)], vec (.slice oa acc.length c) 35 4 acc.length (acc.flatMap tokV)]
set_option maxHeartbeats 4000000 in
set_option maxRecDepth 100000 in
theorem add3_any (b at_ : Nat) (s text : List UInt8) (t : TokD) (oa : Option Addr) (c : Nat) (acc : List TokD) (hat : at_ + text.length ≤ 65536) (hacc : acc.length ≤ 65536) : FnP Tryd.prog 43 [ex (.pointer (some ⟨b, 0, none⟩)), exT text, agg (tokV t)] (scanL b at_ s oa c acc) (fun _ loc => validB t = true ∧ ∃ oa2 c2, loc = scanL b (at_ + text.length) s oa2 c2 (acc ++ [{ t with at_ := at_ }])) (fun ch loc => validB t = false ∧ placeP 42 at_ ch loc) := by
  have hvl := valid_any t
  unfold scanL
  refine FnP_enter Tryd.func43 rfl Tryd.ntmps43 rfl fun w0 F0 out => ?_
  cases hv : validB t
  · rw [hv] at hvl
    (repeat' (first | (refine WPL_panic rfl ?_) | refine WP_seq ?_ | refine WP_region ?_ | refine WPL_nil ?_ | (apply WPL_t; (first | exact WT_move rfl | (apply g_load; first | exact WT_load (k := 1) rfl rfl rfl rfl | exact WT_loada2 (k := 0) rfl rfl rfl) | (apply g_fld; first | exact WT_field rfl rfl rfl) | (apply g_un; first | exact WT_not rfl) | (apply g_nilck; first | exact WT_nilck rfl) | (apply g_mkif; first | exact WT_mkif rfl rfl)); exact rfl) | refine WP_cond_t rfl ?_ | (apply WPL_op0; exact rfl; first | (apply g_callf; first | (refine WO_call Tryd.func35 rfl hvl rfl ?_; rintro _ _ ⟨rfl, rfl⟩)) | (apply g_box; refine WO_box rfl ?_; intro _))))
    all_goals (try (exfalso; first | contradiction | omega))
    refine panic_then (panic_here (loc' := []) (List.nil_sublist _) ?_)
    exact And.intro rfl (And.intro rfl rfl)
  · rw [hv] at hvl
    (repeat' (first | (apply cut_at 4; refine Stop.out ?_) | refine WP_seq ?_ | refine WP_region ?_ | refine WPL_nil ?_ | (apply WPL_t; (first | exact WT_move rfl | (apply g_load; first | exact WT_load (k := 1) rfl rfl rfl rfl | exact WT_loada2 (k := 0) rfl rfl rfl) | (apply g_fld; first | exact WT_field rfl rfl rfl) | (apply g_un; first | exact WT_not rfl) | (apply g_nilck; first | exact WT_nilck rfl)); exact rfl) | refine WP_skip ?_ | refine WP_cond_f rfl ?_ | (apply WPL_op0; exact rfl; first | (apply g_callf; first | (refine WO_call Tryd.func35 rfl hvl rfl ?_; rintro _ _ ⟨rfl, rfl⟩)) | (apply g_box; refine WO_box rfl ?_; intro _) | (apply g_store; first | refine WO_store (k := 0) (l0 := []) rfl rfl rfl ?_))))
    all_goals (try (exfalso; first | contradiction | omega))
    rename_i b5
    constructor
    refine WP_cutR 4 (fun x : Option Addr × Nat => ([(0, ex (.pointer (some ⟨b, 0, none⟩))), (1, exT text)], [row b 49 3 [exT s, exI .i64 (at_ : Int), ex (.slice x.1 (acc.length + 1) x.2)], vec (.slice x.1 (acc.length + 1) x.2) 35 4 (acc.length + 1) (acc.flatMap tokV ++ tokV { t with at_ := at_ })])) (fun _ => True) ?_ fun x _ => ?_
    · refine WP_norm ?_
      refine WP_leads (env' := [(0, ex (.pointer (some ⟨b, 0, none⟩))), (1, exT text), (5, ex (.pointer (some ⟨b5, 0, none⟩)))]) (loc' := [row b5 35 4 (tokV { t with at_ := at_ }), row b 49 3 [exT s, exI .i64 (at_ : Int), ex (.slice oa acc.length c)], vec (.slice oa acc.length c) 35 4 acc.length (acc.flatMap tokV)]) (Leads_env (by repeat (first | exact sub_nil | refine sub_cons rfl ?_)) (List.Sublist.refl _)) ?_
      (refine WP_drawl 6 rfl ?_)
      (try (first | (refine WPY_vv (k := 3) rfl (by omega) ?_; intro _ _ hv _ _; subst hv)))
      (apply WPY_pure 0 rfl (by decide +kernel) rfl (by repeat (first | exact np_norm)) guard_none; (first | exact WT_move rfl); exact rfl)
      (try (first | (refine WPY_vv (k := 3) rfl (by omega) ?_; intro _ _ hv _ _; subst hv)))
      (apply WPY_pure 1 rfl (by decide +kernel) rfl (by repeat (first | exact np_norm)) guard_none; (first | exact WT_move rfl); exact rfl)
      (try (first | (refine WPY_vv (k := 3) rfl (by omega) ?_; intro _ _ hv _ _; subst hv)))
      (apply WPY_pure 2 rfl (by decide +kernel) rfl (by repeat (first | exact np_norm)) guard_none; (first | (apply g_nilck; first | exact WT_nilck rfl)); exact rfl)
      (try (first | (refine WPY_vv (k := 3) rfl (by omega) ?_; intro _ _ hv _ _; subst hv)))
      (apply WPY_pure 3 rfl (by decide +kernel) rfl (by repeat (first | exact np_norm)) guard_none; (first | (apply g_fld; first | exact WT_field rfl rfl rfl)); exact rfl)
      (try (first | (refine WPY_vv (k := 3) rfl (by omega) ?_; intro _ _ hv _ _; subst hv)))
      (refine WPY_two (H1 := fun _ => True) (H2 := fun _ => True) 4 5 (by decide +kernel) rfl guard_none (fun _ _ _ => trivial) rfl guard_none (fun _ _ _ => trivial) ?_ ?_)
      ·
        ((apply WO_t (H := fun _ => True); (first | (apply g_load; first | exact WT_load (k := 1) rfl rfl rfl rfl)); exact rfl))
        (try (first | (refine WPY_vv (k := 3) rfl (by omega) ?_; intro _ _ hv _ _; subst hv)))
        (refine WPY_one (H' := fun _ => True) 5 (by decide +kernel) rfl guard_none (fun _ _ _ => trivial) ?_)
        ((apply WO_t (H := fun _ => True); (first | (apply g_load; first | exact WT_loada2 (k := 0) rfl rfl rfl)); exact rfl))
        (try (first | (refine WPY_vv (k := 3) rfl (by omega) ?_; intro _ _ hv _ _; subst hv)))
        (refine WPY_one (H' := feet []) 6 (by decide +kernel) rfl guard_none (fun h => absurd h (by decide)) ?_)
        (first | (apply g_bslice; (first | refine WO_bslice1 rfl rfl ?_ | refine WO_bslice rfl (by repeat (first | exact PartsO.nil | (apply PartsO.cons; exact rfl; exact inferInstance; exact rfl; exact rfl))) ?_ | refine WO_bslice0 rfl ?_); intro _))
        (try (first | (refine WPY_vv (k := 3) rfl (by omega) ?_; intro _ _ hv _ _; subst hv)))
        (refine WPY_one (H' := feet []) 7 (by decide +kernel) rfl guard_none (fun h => absurd h (by decide)) ?_)
        (first | (apply g_append; refine WO_append (k := 3) (l0 := []) rfl rfl (by exact Src_row (k := 0) (qs := tokV { t with at_ := at_ }) rfl rfl rfl) rfl ?_; intro _))
        (try (first | (refine WPY_vv (k := 3) rfl (by omega) ?_; intro _ _ hv _ _; subst hv)))
        (refine WPY_one (H' := fun _ => True) 8 (by decide +kernel) rfl guard_none (fun _ _ _ => trivial) ?_)
        ((apply WO_t (H := fun _ => True); (first | (apply g_nilck; first | exact WT_nilck rfl)); exact rfl))
        (try (first | (refine WPY_vv (k := 3) rfl (by omega) ?_; intro _ _ hv _ _; subst hv)))
        (refine WPY_one (H' := fun _ => True) 9 (by decide +kernel) rfl guard_none (fun _ _ _ => trivial) ?_)
        ((apply WO_t (H := fun _ => True); (first | (apply g_fld; first | exact WT_field rfl rfl rfl)); exact rfl))
        (try (first | (refine WPY_vv (k := 3) rfl (by omega) ?_; intro _ _ hv _ _; subst hv)))
        (refine WPY_one (H' := feet []) 10 (by decide +kernel) rfl guard_none (fun h => absurd h (by decide)) ?_)
        (first | (apply g_store; first | refine WO_store (k := 2) (l0 := []) rfl rfl rfl ?_))
        (try (first | (refine WPY_vv (k := 3) rfl (by omega) ?_; intro _ _ hv _ _; subst hv)))
        refine WPY_done (by decide +kernel) ?_
        exact ⟨rfl, cut_here (_, _) trivial (Leads_env (by repeat (first | exact sub_nil | refine sub_cons rfl ?_)) (by first | exact .cons _ (.cons _ (.refl _)) | exact .cons _ (.refl _)))⟩
      ·
        ((apply WO_t (H := fun _ => True); (first | (apply g_load; first | exact WT_loada2 (k := 0) rfl rfl rfl)); exact rfl))
        (try (first | (refine WPY_vv (k := 3) rfl (by omega) ?_; intro _ _ hv _ _; subst hv)))
        (refine WPY_two (H1 := fun _ => True) (H2 := feet []) 4 6 (by decide +kernel) rfl guard_none (fun _ _ _ => trivial) rfl guard_none (fun h => absurd h (by decide)) ?_ ?_)
        ·
          ((apply WO_t (H := fun _ => True); (first | (apply g_load; first | exact WT_load (k := 1) rfl rfl rfl rfl)); exact rfl))
          (try (first | (refine WPY_vv (k := 3) rfl (by omega) ?_; intro _ _ hv _ _; subst hv)))
          (refine WPY_one (H' := feet []) 6 (by decide +kernel) rfl guard_none (fun h => absurd h (by decide)) ?_)
          (first | (apply g_bslice; (first | refine WO_bslice1 rfl rfl ?_ | refine WO_bslice rfl (by repeat (first | exact PartsO.nil | (apply PartsO.cons; exact rfl; exact inferInstance; exact rfl; exact rfl))) ?_ | refine WO_bslice0 rfl ?_); intro _))
          (try (first | (refine WPY_vv (k := 3) rfl (by omega) ?_; intro _ _ hv _ _; subst hv)))
          (refine WPY_one (H' := feet []) 7 (by decide +kernel) rfl guard_none (fun h => absurd h (by decide)) ?_)
          (first | (apply g_append; refine WO_append (k := 3) (l0 := []) rfl rfl (by exact Src_row (k := 0) (qs := tokV { t with at_ := at_ }) rfl rfl rfl) rfl ?_; intro _))
          (try (first | (refine WPY_vv (k := 3) rfl (by omega) ?_; intro _ _ hv _ _; subst hv)))
          (refine WPY_one (H' := fun _ => True) 8 (by decide +kernel) rfl guard_none (fun _ _ _ => trivial) ?_)
          ((apply WO_t (H := fun _ => True); (first | (apply g_nilck; first | exact WT_nilck rfl)); exact rfl))
          (try (first | (refine WPY_vv (k := 3) rfl (by omega) ?_; intro _ _ hv _ _; subst hv)))
          (refine WPY_one (H' := fun _ => True) 9 (by decide +kernel) rfl guard_none (fun _ _ _ => trivial) ?_)
          ((apply WO_t (H := fun _ => True); (first | (apply g_fld; first | exact WT_field rfl rfl rfl)); exact rfl))
          (try (first | (refine WPY_vv (k := 3) rfl (by omega) ?_; intro _ _ hv _ _; subst hv)))
          (refine WPY_one (H' := feet []) 10 (by decide +kernel) rfl guard_none (fun h => absurd h (by decide)) ?_)
          (first | (apply g_store; first | refine WO_store (k := 2) (l0 := []) rfl rfl rfl ?_))
          (try (first | (refine WPY_vv (k := 3) rfl (by omega) ?_; intro _ _ hv _ _; subst hv)))
          refine WPY_done (by decide +kernel) ?_
          exact ⟨rfl, cut_here (_, _) trivial (Leads_env (by repeat (first | exact sub_nil | refine sub_cons rfl ?_)) (by first | exact .cons _ (.cons _ (.refl _)) | exact .cons _ (.refl _)))⟩
        ·
          (first | (apply g_bslice; (first | refine WO_bslice1 rfl rfl ?_ | refine WO_bslice rfl (by repeat (first | exact PartsO.nil | (apply PartsO.cons; exact rfl; exact inferInstance; exact rfl; exact rfl))) ?_ | refine WO_bslice0 rfl ?_); intro _))
          (try (first | (refine WPY_vv (k := 3) rfl (by omega) ?_; intro _ _ hv _ _; subst hv)))
          (refine WPY_one (H' := fun _ => True) 4 (by decide +kernel) rfl guard_none (fun _ _ _ => trivial) ?_)
          ((apply WO_t (H := fun _ => True); (first | (apply g_load; first | exact WT_load (k := 2) rfl rfl rfl rfl)); exact rfl))
          (try (first | (refine WPY_vv (k := 3) rfl (by omega) ?_; intro _ _ hv _ _; subst hv)))
          (refine WPY_one (H' := feet []) 7 (by decide +kernel) rfl guard_none (fun h => absurd h (by decide)) ?_)
          (first | (apply g_append; refine WO_append (k := 3) (l0 := []) rfl rfl (by exact Src_row (k := 0) (qs := tokV { t with at_ := at_ }) rfl rfl rfl) rfl ?_; intro _))
          (try (first | (refine WPY_vv (k := 3) rfl (by omega) ?_; intro _ _ hv _ _; subst hv)))
          (refine WPY_one (H' := fun _ => True) 8 (by decide +kernel) rfl guard_none (fun _ _ _ => trivial) ?_)
          ((apply WO_t (H := fun _ => True); (first | (apply g_nilck; first | exact WT_nilck rfl)); exact rfl))
          (try (first | (refine WPY_vv (k := 3) rfl (by omega) ?_; intro _ _ hv _ _; subst hv)))
          (refine WPY_one (H' := fun _ => True) 9 (by decide +kernel) rfl guard_none (fun _ _ _ => trivial) ?_)
          ((apply WO_t (H := fun _ => True); (first | (apply g_fld; first | exact WT_field rfl rfl rfl)); exact rfl))
          (try (first | (refine WPY_vv (k := 3) rfl (by omega) ?_; intro _ _ hv _ _; subst hv)))
          (refine WPY_one (H' := feet []) 10 (by decide +kernel) rfl guard_none (fun h => absurd h (by decide)) ?_)
          (first | (apply g_store; first | refine WO_store (k := 2) (l0 := []) rfl rfl rfl ?_))
          (try (first | (refine WPY_vv (k := 3) rfl (by omega) ?_; intro _ _ hv _ _; subst hv)))
          refine WPY_done (by decide +kernel) ?_
          exact ⟨rfl, cut_here (_, _) trivial (Leads_env (by repeat (first | exact sub_nil | refine sub_cons rfl ?_)) (by first | exact .cons _ (.cons _ (.refl _)) | exact .cons _ (.refl _)))⟩
    obtain ⟨oa2, c2⟩ := x
    simp only
    (repeat' (first | refine WP_region ?_ | refine WPL_nil ?_ | (apply WPL_t; (first | exact WT_move rfl | (apply g_load; first | exact WT_load (k := 0) rfl rfl rfl rfl) | (apply g_fld; first | exact WT_field rfl rfl rfl) | (apply g_bin; first | exact WT_add rfl rfl) | (apply g_call; first | exact WT_lent rfl rfl) | (apply g_nilck; first | exact WT_nilck rfl)); exact rfl) | (apply WPL_op0; exact rfl; first | (apply g_store; first | refine WO_store (k := 0) (l0 := []) rfl rfl rfl ?_))))
    refine ⟨.inl rfl, ret0 (loc' := [row b 49 3 [exT s, exI .i64 ((at_ : Int) + (text.length : Int)), ex (.slice oa2 (acc.length + 1) c2)], vec (.slice oa2 (acc.length + 1) c2) 35 4 (acc.length + 1) (acc.flatMap tokV ++ tokV { t with at_ := at_ })]) rfl (List.Sublist.refl _) ⟨by first | rfl | trivial, oa2, c2, ?_⟩⟩
    simp only [List.length_append, List.length_cons, List.length_nil, Nat.zero_add, List.flatMap_append, List.flatMap_cons, List.flatMap_nil, List.append_nil, Int.natCast_add]
end Go.Proofs.YtdpabdbeecbnmaaDoor

/- Chapter 03: what the scanner's methods do at a place. No program in sight. -/
namespace Go.Lx
theorem at_name {s : List UInt8} {i : Nat} (hi : i < s.length) (h : letterB s[i] = true) : (nameB ((s.drop i).takeWhile partB) = true → lexF i (s.drop i) = (lexF (i + ((s.drop i).takeWhile partB).length) (s.drop (i + ((s.drop i).takeWhile partB).length))).map (⟨1, (s.drop i).takeWhile partB, 0, i⟩ :: ·)) ∧ (nameB ((s.drop i).takeWhile partB) = false → lexF i (s.drop i) = .error i) ∧ 1 ≤ ((s.drop i).takeWhile partB).length ∧ i + ((s.drop i).takeWhile partB).length ≤ s.length := by
  have hd : s.drop i = s[i] :: s.drop (i + 1) := List.drop_eq_getElem_cons hi
  have hle : ((s.drop i).takeWhile partB).length ≤ s.length - i := by rw [← List.length_drop]; exact tw_len _
  have hst : step (s[i] :: s.drop (i + 1)) = if ((s.drop i).takeWhile partB).length ≤ 32 then .tok ((s.drop i).takeWhile partB).length 1 ((s.drop i).takeWhile partB) 0 else .bad := by
    rw [step_cons, if_neg (by rw [((class_cases s[i]).1 h).1]; simp), if_neg (fun e => ((class_cases s[i]).1 h).2.2.2.1 e.1), if_pos h, hd]
  refine ⟨fun hn => ?_, fun hn => ?_, by rw [hd]; exact tw_pos (part_of_letter h), by omega⟩
  · rw [hd, name_run h, ← hd, decide_eq_true_iff] at hn
    rw [if_pos hn] at hst
    exact lexF_drop_tok hi hst
  · rw [hd, name_run h, ← hd, decide_eq_false_iff_not] at hn
    rw [if_neg hn] at hst
    exact lexF_drop_bad hi hst
theorem at_number {s : List UInt8} {i : Nat} (hi : i < s.length) (h : digitB s[i] = true) : (numB ((s.drop i).takeWhile digitB) = true → lexF i (s.drop i) = (lexF (i + ((s.drop i).takeWhile digitB).length) (s.drop (i + ((s.drop i).takeWhile digitB).length))).map (⟨2, [], valF ((s.drop i).takeWhile digitB), i⟩ :: ·)) ∧ (numB ((s.drop i).takeWhile digitB) = false → lexF i (s.drop i) = .error i) ∧ 1 ≤ ((s.drop i).takeWhile digitB).length ∧ i + ((s.drop i).takeWhile digitB).length ≤ s.length := by
  have hd : s.drop i = s[i] :: s.drop (i + 1) := List.drop_eq_getElem_cons hi
  have hle : ((s.drop i).takeWhile digitB).length ≤ s.length - i := by rw [← List.length_drop]; exact tw_len _
  obtain ⟨c1, c2, c3, c4, -⟩ := (class_cases s[i]).2.1 h
  have hst : step (s[i] :: s.drop (i + 1)) = if numB ((s.drop i).takeWhile digitB) then .tok ((s.drop i).takeWhile digitB).length 2 [] (valF ((s.drop i).takeWhile digitB)) else .bad := by
    rw [step_cons, if_neg (by rw [c1]; simp), if_neg (fun e => c4 e.1), if_neg (by rw [c2]; simp), if_pos h, hd]
  refine ⟨fun hn => ?_, fun hn => ?_, by rw [hd]; exact tw_pos h, by omega⟩
  · rw [if_pos hn] at hst
    exact lexF_drop_tok hi hst
  · rw [if_neg (by rw [hn]; simp)] at hst
    exact lexF_drop_bad hi hst
theorem at_space {s : List UInt8} {i : Nat} (hi : i < s.length) (h : spaceB s[i] = true) : lexF i (s.drop i) = lexF (i + ((s.drop i).takeWhile spaceB).length) (s.drop (i + ((s.drop i).takeWhile spaceB).length)) ∧ 1 ≤ ((s.drop i).takeWhile spaceB).length ∧ i + ((s.drop i).takeWhile spaceB).length ≤ s.length := by
  have hd : s.drop i = s[i] :: s.drop (i + 1) := List.drop_eq_getElem_cons hi
  have hle : ((s.drop i).takeWhile spaceB).length ≤ s.length - i := by rw [← List.length_drop]; exact tw_len _
  have key : ∀ (n k : Nat), n ≤ ((s.drop i).takeWhile spaceB).length → k = n → lexF i (s.drop i) = lexF (i + k) (s.drop (i + k)) := by
    intro n
    induction n with
    | zero => intro k _ e; subst e; rfl
    | succ n ih =>
      intro k hn e
      subst e
      rw [ih n (by omega) rfl]
      have hlt : i + n < s.length := by omega
      have hs : spaceB s[i + n] = true := (run_of spaceB s i (by omega)).in_ (i + n) hlt (by omega) (by omega)
      rw [lexF_drop_skip hlt (step_space hs _), Nat.add_assoc]
  exact ⟨key _ _ (Nat.le_refl _) rfl, by rw [hd]; exact tw_pos h, by omega⟩
theorem at_comment {s : List UInt8} {i : Nat} (hi : i < s.length) (h : s[i] = 47) (h2 : (s.drop (i + 1)).head? = some 47) : lexF i (s.drop i) = lexF (i + ((s.drop i).takeWhile lineB).length) (s.drop (i + ((s.drop i).takeWhile lineB).length)) ∧ 1 ≤ ((s.drop i).takeWhile lineB).length ∧ i + ((s.drop i).takeWhile lineB).length ≤ s.length := by
  have hd : s.drop i = s[i] :: s.drop (i + 1) := List.drop_eq_getElem_cons hi
  have hle : ((s.drop i).takeWhile lineB).length ≤ s.length - i := by rw [← List.length_drop]; exact tw_len _
  have hst : step (s[i] :: s.drop (i + 1)) = .skip ((s.drop i).takeWhile lineB).length := by
    rw [step_cons, if_neg (by rw [h]; decide), if_pos ⟨h, h2⟩, hd]
  exact ⟨lexF_drop_skip hi hst, by rw [hd]; exact tw_pos (by rw [h]; decide), by omega⟩
theorem at_sign {s : List UInt8} {i : Nat} (hi : i < s.length) (h : signB s[i] = true) (h2 : s[i] = 47 → (s.drop (i + 1)).head? ≠ some 47) : lexF i (s.drop i) = (lexF (i + 1) (s.drop (i + 1))).map (⟨3, [s[i]], 0, i⟩ :: ·) := lexF_drop_tok hi (step_sign h h2)
theorem at_wrong {s : List UInt8} {i : Nat} (hi : i < s.length) (h1 : spaceB s[i] = false) (h2 : letterB s[i] = false) (h3 : digitB s[i] = false) (h4 : signB s[i] = false) : lexF i (s.drop i) = .error i := by
  refine lexF_drop_bad hi ?_
  rw [step_cons, if_neg (by rw [h1]; simp), if_neg (fun e => by rw [e.1, sign47] at h4; cases h4), if_neg (by rw [h2]; simp), if_neg (by rw [h3]; simp), if_neg (by rw [h4]; simp)]
/-- Digits are what they spell exactly if no zero stands ahead. -/
theorem dec_val_iff {t : List UInt8} (hd : ∀ c ∈ t, digitB c = true) (hne : t ≠ []) : decF (valF t) = t ↔ (t.length = 1 ∨ t.head? ≠ some 48) := by
  refine ⟨fun h => ?_, fun h => val_dec t hd hne h⟩
  by_cases h0 : valF t = 0
  · left; rw [← h, h0, decF_small (by decide)]; rfl
  · right; rw [← h]; exact decF_head _ (by omega)
theorem numB_iff {t : List UInt8} (hd : ∀ c ∈ t, digitB c = true) (hne : t ≠ []) : numB t = (decide (valF t ≤ 1099511627776) && decide (decF (valF t) = t)) := by
  unfold numB
  congr 1
  rw [← Bool.decide_or]
  exact decide_eq_decide.2 (dec_val_iff hd hne).symm
/-- The place of the line's end, as IndexByte finds it. -/
theorem line_index (s : List UInt8) : (s.takeWhile lineB).length = s.length ∨ ∃ h : (s.takeWhile lineB).length < s.length, s[(s.takeWhile lineB).length] = 10 := by
  by_cases h : (s.takeWhile lineB).length < s.length
  · right
    refine ⟨h, ?_⟩
    have := tw_drop _ _ (List.drop_eq_getElem_cons h)
    unfold lineB at this
    rw [decide_eq_false_iff_not] at this
    exact Classical.byContradiction fun e => this e
  · left; have := tw_len (p := lineB) s; omega
end Go.Lx

/-
  DERIVED: THE SHELF's CONTRACTS AT THIS DUMP, IN PLAIN WORDS (tools/lay-plain.mjs out of 'TrydShelf.lean', which tools/lay-shelf.mjs wrote): THE SAME DECLARATIONS UNDER THE SAME NAMES: 'import', 'namespace', 'open', 'def', 'theorem' AND NOTHING ELSE: no command of the shelf's: FOR A HAND-IN. Each laying: the table of numbers ('.._ren') and one theorem, a field a fact of the dump's own or the kernel's comparison; each contract: ONE APPLICATION.
-/
namespace Go.Proofs
open Go.Shelf
def Tryd.lays156_ren : Go.Shelf.Ren := ⟨fun | 156 => 37 | 165 => 48 | 166 => 49 | 169 => 50 | 240 => 57 | 241 => 58 | 276 => 70 | 277 => 71 | n => n, fun | 31 => 39 | 9 => 9 | 3 => 3 | 4 => 4 | 0 => 0 | 20 => 20 | 72 => 67 | 76 => 62 | 70 => 65 | 37 => 38 | 75 => 61 | 127 => 74 | 164 => 88 | 5 => 5 | 80 => 69 | n => n, fun | n => n⟩
theorem Tryd.lays156 : Go.Proofs.Lays.n156 Tryd.prog Tryd.lays156_ren := {
  mixed := by kernel_rfl
  f156 := Tryd.func37.trans (congrArg some (by kernel_rfl))
  f165 := Tryd.func48.trans (congrArg some (by kernel_rfl))
  f166 := Tryd.func49.trans (congrArg some (by kernel_rfl))
  f169 := Tryd.func50.trans (congrArg some (by kernel_rfl))
  f240 := Tryd.func57.trans (congrArg some (by kernel_rfl))
  f241 := Tryd.func58.trans (congrArg some (by kernel_rfl))
  f276 := Tryd.func70.trans (congrArg some (by kernel_rfl))
  f277 := Tryd.func71.trans (congrArg some (by kernel_rfl))
  t0 := Tryd.underlying0
  a0 := Tryd.isAgg0
  z0 := Tryd.sizeOf0
  v0 := Tryd.zeroValue0
  t3 := Tryd.underlying3
  a3 := Tryd.isAgg3
  z3 := Tryd.sizeOf3
  v3 := Tryd.zeroValue3
  t4 := Tryd.underlying4
  a4 := Tryd.isAgg4
  z4 := Tryd.sizeOf4
  v4 := Tryd.zeroValue4
  t9 := Tryd.underlying9
  a9 := Tryd.isAgg9
  z9 := Tryd.sizeOf9
  v9 := Tryd.zeroValue9
  t20 := Tryd.underlying20
  a20 := Tryd.isAgg20
  z20 := Tryd.sizeOf20
  v20 := Tryd.zeroValue20
  t31 := Tryd.underlying39
  a31 := Tryd.isAgg39
  z31 := Tryd.sizeOf39
  v31 := Tryd.zeroValue39
  t37 := Tryd.underlying38
  a37 := Tryd.isAgg38
  z37 := Tryd.sizeOf38
  v37 := Tryd.zeroValue38
  t70 := Tryd.underlying65
  a70 := Tryd.isAgg65
  z70 := Tryd.sizeOf65
  v70 := Tryd.zeroValue65
  t72 := Tryd.underlying67
  a72 := Tryd.isAgg67
  z72 := Tryd.sizeOf67
  v72 := Tryd.zeroValue67
  t75 := Tryd.underlying61
  a75 := Tryd.isAgg61
  z75 := Tryd.sizeOf61
  v75 := Tryd.zeroValue61
  t76 := Tryd.underlying62
  a76 := Tryd.isAgg62
  z76 := Tryd.sizeOf62
  v76 := Tryd.zeroValue62
  t127 := Tryd.underlying74
  a127 := Tryd.isAgg74
  z127 := Tryd.sizeOf74
  v127 := Tryd.zeroValue74
  t164 := Tryd.underlying88
  a164 := Tryd.isAgg88
  z164 := Tryd.sizeOf88
  v164 := Tryd.zeroValue88 }
theorem Tryd.Builder_Extra_156 : Builder.Extra Tryd.prog Tryd.lays156_ren := {
  sizeBuilder := by kernel_rfl
  liesBuilder := by kernel_rfl
  t5 := Tryd.underlying5
  a5 := Tryd.isAgg5
  z5 := Tryd.sizeOf5
  v5 := Tryd.zeroValue5
  infoByte := by kernel_rfl
  cellsByte := by kernel_rfl
  sizeByte := by kernel_rfl
  neB5 := by decide }
open Go.RowKit in
/-- No element: the empty string; the world is as it was. (Whatever the slice's address and capacity: a nil slice too.) (LAID: no walk: one application.) -/
theorem Tryd.strings_Join_none (a : Option Addr) (c : Nat) (sep : ByteArray) (w : World) :
    Calls Tryd.prog 37 #[.slice a 0 c, .string sep] w fun e w' => e = .returned (.string ⟨#[]⟩) ∧ w' = w := Any.strings_Join_none Tryd.lays156 Tryd.Builder_Extra_156 a c sep w
open Go.RowKit in
/-- strings.Join: "Join concatenates the elements of its first argument to create a single string. The separator string sep is placed between elements in the resulting string.": HOWEVER MANY ELEMENTS. Below the heap's end the world is as it was. (LAID: no walk: one application.) -/
theorem Tryd.strings_Join (bk o c : Nat) (xs : List ByteArray) (sep : ByteArray) (w : World) (hcells : ∀ (j : Nat) x, xs[j]? = some x → w.cell? ⟨bk, o + j, none⟩ = some (.string x)) (hbk : bk < w.heap.size) (hN : xs.length ≤ 140737488355328) (hcap : xs.length ≤ c) (hlen : (Lib.join (xs.map (·.data.toList)) sep.data.toList).length ≤ 140737488355328) :
    Calls Tryd.prog 37 #[.slice (some ⟨bk, o, none⟩) xs.length c, .string sep] w fun e w' => e = .returned (.string ⟨(Lib.join (xs.map (·.data.toList)) sep.data.toList).toArray⟩) ∧ Below w.heap.size w w' := Any.strings_Join Tryd.lays156 Tryd.Builder_Extra_156 bk o c xs sep w hcells hbk hN hcap hlen
def Tryd.lays137_ren : Go.Shelf.Ren := ⟨fun | 137 => 46 | 217 => 55 | 266 => 65 | n => n, fun | 9 => 9 | 5 => 5 | 3 => 3 | n => n, fun | n => n⟩
theorem Tryd.lays137 : Go.Proofs.Lays.n137 Tryd.prog Tryd.lays137_ren := {
  mixed := by kernel_rfl
  f137 := Tryd.func46.trans (congrArg some (by kernel_rfl))
  f217 := Tryd.func55.trans (congrArg some (by kernel_rfl))
  f266 := Tryd.func65.trans (congrArg some (by kernel_rfl))
  t3 := Tryd.underlying3
  a3 := Tryd.isAgg3
  z3 := Tryd.sizeOf3
  v3 := Tryd.zeroValue3
  t5 := Tryd.underlying5
  a5 := Tryd.isAgg5
  z5 := Tryd.sizeOf5
  v5 := Tryd.zeroValue5
  t9 := Tryd.underlying9
  a9 := Tryd.isAgg9
  z9 := Tryd.sizeOf9
  v9 := Tryd.zeroValue9 }
open Go.RowKit in
/-- strings.IndexByte: "IndexByte returns the index of the first instance of c in s, or -1 if c is not present in s.": IT RETURNS 'Lib.indexByte s c'; the world is as it was. (LAID: no walk: one application.) -/
theorem Tryd.strings_IndexByte (s : ByteArray) (c : Int) (w : World) :
    Calls Tryd.prog 46 #[.string s, .int .u8 c] w fun e w' => e = .returned (.int .i64 (Lib.indexByte s.data.toList c.toNat.toUInt8)) ∧ w' = w := Any.strings_IndexByte Tryd.lays137 s c w
def Tryd.laysM171_ren : Go.Shelf.Ren := ⟨fun | 171 => 36 | 243 => 47 | 246 => 56 | 283 => 66 | 284 => 67 | 285 => 68 | 286 => 69 | 129 => 76 | 317 => 75 | 318 => 77 | 319 => 78 | 320 => 79 | 337 => 82 | 338 => 83 | n => n, fun | 3 => 3 | 9 => 9 | 2 => 2 | 4 => 4 | 171 => 82 | 0 => 0 | 53 => 83 | 37 => 38 | 5 => 5 | 173 => 86 | 212 => 100 | 51 => 101 | 20 => 20 | 213 => 102 | 46 => 93 | 232 => 110 | 233 => 111 | n => n, fun | 17 => 3 | 18 => 4 | 19 => 5 | n => n⟩
theorem Tryd.laysM171 : Go.Proofs.LaysM.n171 Tryd.prog Tryd.laysM171_ren := {
  mixed := by kernel_rfl
  f129 := Tryd.func76.trans (congrArg some (by kernel_rfl))
  f171 := Tryd.func36.trans (congrArg some (by kernel_rfl))
  f243 := Tryd.func47.trans (congrArg some (by kernel_rfl))
  f246 := Tryd.func56.trans (congrArg some (by kernel_rfl))
  f283 := Tryd.func66.trans (congrArg some (by kernel_rfl))
  f284 := Tryd.func67.trans (congrArg some (by kernel_rfl))
  f285 := Tryd.func68.trans (congrArg some (by kernel_rfl))
  f286 := Tryd.func69.trans (congrArg some (by kernel_rfl))
  f317 := Tryd.func75.trans (congrArg some (by kernel_rfl))
  f318 := Tryd.func77.trans (congrArg some (by kernel_rfl))
  f319 := Tryd.func78.trans (congrArg some (by kernel_rfl))
  f320 := Tryd.func79.trans (congrArg some (by kernel_rfl))
  f337 := Tryd.func82.trans (congrArg some (by kernel_rfl))
  f338 := Tryd.func83.trans (congrArg some (by kernel_rfl))
  t0 := Tryd.underlying0
  a0 := Tryd.isAgg0
  z0 := Tryd.sizeOf0
  v0 := Tryd.zeroValue0
  t2 := Tryd.underlying2
  a2 := Tryd.isAgg2
  z2 := Tryd.sizeOf2
  v2 := Tryd.zeroValue2
  t3 := Tryd.underlying3
  a3 := Tryd.isAgg3
  z3 := Tryd.sizeOf3
  v3 := Tryd.zeroValue3
  t4 := Tryd.underlying4
  a4 := Tryd.isAgg4
  z4 := Tryd.sizeOf4
  v4 := Tryd.zeroValue4
  t5 := Tryd.underlying5
  a5 := Tryd.isAgg5
  z5 := Tryd.sizeOf5
  v5 := Tryd.zeroValue5
  t9 := Tryd.underlying9
  a9 := Tryd.isAgg9
  z9 := Tryd.sizeOf9
  v9 := Tryd.zeroValue9
  t20 := Tryd.underlying20
  a20 := Tryd.isAgg20
  z20 := Tryd.sizeOf20
  v20 := Tryd.zeroValue20
  t37 := Tryd.underlying38
  a37 := Tryd.isAgg38
  z37 := Tryd.sizeOf38
  v37 := Tryd.zeroValue38
  t46 := Tryd.underlying93
  a46 := Tryd.isAgg93
  z46 := Tryd.sizeOf93
  v46 := Tryd.zeroValue93
  t51 := Tryd.underlying101
  a51 := Tryd.isAgg101
  z51 := Tryd.sizeOf101
  v51 := Tryd.zeroValue101
  t53 := Tryd.underlying83
  a53 := Tryd.isAgg83
  z53 := Tryd.sizeOf83
  v53 := Tryd.zeroValue83
  t171 := Tryd.underlying82
  a171 := Tryd.isAgg82
  z171 := Tryd.sizeOf82
  v171 := Tryd.zeroValue82
  t173 := Tryd.underlying86
  a173 := Tryd.isAgg86
  z173 := Tryd.sizeOf86
  v173 := Tryd.zeroValue86
  t212 := Tryd.underlying100
  a212 := Tryd.isAgg100
  z212 := Tryd.sizeOf100
  v212 := Tryd.zeroValue100
  t213 := Tryd.underlying102
  a213 := Tryd.isAgg102
  z213 := Tryd.sizeOf102
  t232 := Tryd.underlying110
  a232 := Tryd.isAgg110
  z232 := Tryd.sizeOf110
  v232 := Tryd.zeroValue110
  t233 := Tryd.underlying111
  a233 := Tryd.isAgg111
  z233 := Tryd.sizeOf111
  v233 := Tryd.zeroValue111
  g17 := by kernel_rfl
  g18 := by kernel_rfl
  g19 := by kernel_rfl
  i0 := by kernel_rfl
  i2 := by kernel_rfl
  i3 := by kernel_rfl
  i4 := by kernel_rfl
  i5 := by kernel_rfl
  i9 := by kernel_rfl
  i20 := by kernel_rfl
  i37 := by kernel_rfl
  i46 := by kernel_rfl
  i51 := by kernel_rfl
  i53 := by kernel_rfl
  i171 := by kernel_rfl
  i173 := by kernel_rfl
  i212 := by kernel_rfl
  i232 := by kernel_rfl
  i233 := by kernel_rfl
  m17 := by kernel_rfl
  m18 := by kernel_rfl
  m19 := by kernel_rfl }
open Go.RowKit Go.Sort Go.Lib in
/-- strconv.Itoa: "Itoa is equivalent to FormatInt(int64(i), 10).": i's DECIMAL NUMERAL ('Lib.itoa': a '-' where i is negative, then the digits), FOR EVERY int. The world behind the call: the world before it, new blocks behind the heap (the library's 'var a [24]byte'), draws. (LAID: no walk: one application.) -/
theorem Tryd.strconv_Itoa (n : Int) (h0 : -9223372036854775808 ≤ n) (h1 : n ≤ 9223372036854775807) (w : World) (htab : Lib.TabIs Tryd.prog w "internal/strconv.uint64pow10" .u64 Lib.pow10Tab) :
    Calls Tryd.prog 36 #[.int .i64 n] w fun e w' => e = .returned (.string ⟨(Lib.itoa n).toArray⟩) ∧ ∃ k os, w' = grow (w.drewN k) os := Any.strconv_Itoa Tryd.laysM171 n h0 h1 w htab
def Tryd.laysC172_ren : Go.Shelf.Ren := ⟨fun | 172 => 44 | 244 => 52 | 245 => 53 | 247 => 60 | 279 => 61 | 280 => 62 | 281 => 63 | 282 => 64 | 287 => 72 | 316 => 73 | 171 => 36 | 205 => 74 | 321 => 80 | 322 => 81 | 243 => 47 | 246 => 56 | 283 => 66 | 284 => 67 | 285 => 68 | 286 => 69 | 129 => 76 | 317 => 75 | 318 => 77 | 319 => 78 | 320 => 79 | 337 => 82 | 338 => 83 | n => n, fun | 9 => 9 | 3 => 3 | 75 => 61 | 76 => 62 | 4 => 4 | 5 => 5 | 167 => 76 | 37 => 38 | 0 => 0 | 85 => 77 | 2 => 2 | 168 => 79 | 53 => 83 | 175 => 91 | 46 => 93 | 210 => 96 | 127 => 74 | 145 => 108 | 143 => 106 | 21 => 21 | 171 => 82 | 173 => 86 | 212 => 100 | 51 => 101 | 20 => 20 | 213 => 102 | 232 => 110 | 233 => 111 | 80 => 69 | n => n, fun | 15 => 0 | 16 => 1 | 17 => 3 | 18 => 4 | 19 => 5 | n => n⟩
theorem Tryd.laysC172 : Go.Proofs.LaysC.n172 Tryd.prog Tryd.laysC172_ren := {
  mixed := by kernel_rfl
  f129 := Tryd.func76.trans (congrArg some (by kernel_rfl))
  f171 := Tryd.func36.trans (congrArg some (by kernel_rfl))
  f172 := Tryd.func44.trans (congrArg some (by kernel_rfl))
  f205 := Tryd.func74.trans (congrArg some (by kernel_rfl))
  f243 := Tryd.func47.trans (congrArg some (by kernel_rfl))
  f244 := Tryd.func52.trans (congrArg some (by kernel_rfl))
  f245 := Tryd.func53.trans (congrArg some (by kernel_rfl))
  f246 := Tryd.func56.trans (congrArg some (by kernel_rfl))
  f247 := Tryd.func60.trans (congrArg some (by kernel_rfl))
  f279 := Tryd.func61.trans (congrArg some (by kernel_rfl))
  f280 := Tryd.func62.trans (congrArg some (by kernel_rfl))
  f281 := Tryd.func63.trans (congrArg some (by kernel_rfl))
  f282 := Tryd.func64.trans (congrArg some (by kernel_rfl))
  f283 := Tryd.func66.trans (congrArg some (by kernel_rfl))
  f284 := Tryd.func67.trans (congrArg some (by kernel_rfl))
  f285 := Tryd.func68.trans (congrArg some (by kernel_rfl))
  f286 := Tryd.func69.trans (congrArg some (by kernel_rfl))
  f287 := Tryd.func72.trans (congrArg some (by kernel_rfl))
  f316 := Tryd.func73.trans (congrArg some (by kernel_rfl))
  f317 := Tryd.func75.trans (congrArg some (by kernel_rfl))
  f318 := Tryd.func77.trans (congrArg some (by kernel_rfl))
  f319 := Tryd.func78.trans (congrArg some (by kernel_rfl))
  f320 := Tryd.func79.trans (congrArg some (by kernel_rfl))
  f321 := Tryd.func80.trans (congrArg some (by kernel_rfl))
  f322 := Tryd.func81.trans (congrArg some (by kernel_rfl))
  f337 := Tryd.func82.trans (congrArg some (by kernel_rfl))
  f338 := Tryd.func83.trans (congrArg some (by kernel_rfl))
  t0 := Tryd.underlying0
  a0 := Tryd.isAgg0
  z0 := Tryd.sizeOf0
  v0 := Tryd.zeroValue0
  t2 := Tryd.underlying2
  a2 := Tryd.isAgg2
  z2 := Tryd.sizeOf2
  v2 := Tryd.zeroValue2
  t3 := Tryd.underlying3
  a3 := Tryd.isAgg3
  z3 := Tryd.sizeOf3
  v3 := Tryd.zeroValue3
  t4 := Tryd.underlying4
  a4 := Tryd.isAgg4
  z4 := Tryd.sizeOf4
  v4 := Tryd.zeroValue4
  t5 := Tryd.underlying5
  a5 := Tryd.isAgg5
  z5 := Tryd.sizeOf5
  v5 := Tryd.zeroValue5
  t9 := Tryd.underlying9
  a9 := Tryd.isAgg9
  z9 := Tryd.sizeOf9
  v9 := Tryd.zeroValue9
  t20 := Tryd.underlying20
  a20 := Tryd.isAgg20
  z20 := Tryd.sizeOf20
  v20 := Tryd.zeroValue20
  t21 := Tryd.underlying21
  a21 := Tryd.isAgg21
  z21 := Tryd.sizeOf21
  v21 := Tryd.zeroValue21
  t37 := Tryd.underlying38
  a37 := Tryd.isAgg38
  z37 := Tryd.sizeOf38
  v37 := Tryd.zeroValue38
  t46 := Tryd.underlying93
  a46 := Tryd.isAgg93
  z46 := Tryd.sizeOf93
  v46 := Tryd.zeroValue93
  t51 := Tryd.underlying101
  a51 := Tryd.isAgg101
  z51 := Tryd.sizeOf101
  v51 := Tryd.zeroValue101
  t53 := Tryd.underlying83
  a53 := Tryd.isAgg83
  z53 := Tryd.sizeOf83
  v53 := Tryd.zeroValue83
  t75 := Tryd.underlying61
  a75 := Tryd.isAgg61
  z75 := Tryd.sizeOf61
  v75 := Tryd.zeroValue61
  t76 := Tryd.underlying62
  a76 := Tryd.isAgg62
  z76 := Tryd.sizeOf62
  v76 := Tryd.zeroValue62
  t85 := Tryd.underlying77
  a85 := Tryd.isAgg77
  z85 := Tryd.sizeOf77
  v85 := Tryd.zeroValue77
  t127 := Tryd.underlying74
  a127 := Tryd.isAgg74
  z127 := Tryd.sizeOf74
  v127 := Tryd.zeroValue74
  t143 := Tryd.underlying106
  a143 := Tryd.isAgg106
  z143 := Tryd.sizeOf106
  v143 := Tryd.zeroValue106
  t145 := Tryd.underlying108
  a145 := Tryd.isAgg108
  z145 := Tryd.sizeOf108
  v145 := Tryd.zeroValue108
  t167 := Tryd.underlying76
  a167 := Tryd.isAgg76
  z167 := Tryd.sizeOf76
  v167 := Tryd.zeroValue76
  t168 := Tryd.underlying79
  a168 := Tryd.isAgg79
  z168 := Tryd.sizeOf79
  v168 := Tryd.zeroValue79
  t171 := Tryd.underlying82
  a171 := Tryd.isAgg82
  z171 := Tryd.sizeOf82
  v171 := Tryd.zeroValue82
  t173 := Tryd.underlying86
  a173 := Tryd.isAgg86
  z173 := Tryd.sizeOf86
  v173 := Tryd.zeroValue86
  t175 := Tryd.underlying91
  a175 := Tryd.isAgg91
  z175 := Tryd.sizeOf91
  v175 := Tryd.zeroValue91
  t210 := Tryd.underlying96
  a210 := Tryd.isAgg96
  z210 := Tryd.sizeOf96
  v210 := Tryd.zeroValue96
  t212 := Tryd.underlying100
  a212 := Tryd.isAgg100
  z212 := Tryd.sizeOf100
  v212 := Tryd.zeroValue100
  t213 := Tryd.underlying102
  a213 := Tryd.isAgg102
  z213 := Tryd.sizeOf102
  t232 := Tryd.underlying110
  a232 := Tryd.isAgg110
  z232 := Tryd.sizeOf110
  v232 := Tryd.zeroValue110
  t233 := Tryd.underlying111
  a233 := Tryd.isAgg111
  z233 := Tryd.sizeOf111
  v233 := Tryd.zeroValue111
  g15 := by kernel_rfl
  g16 := by kernel_rfl
  g17 := by kernel_rfl
  g18 := by kernel_rfl
  g19 := by kernel_rfl
  t80 := Tryd.underlying69
  a80 := Tryd.isAgg69
  z80 := Tryd.sizeOf69
  v80 := Tryd.zeroValue69
  i0 := by kernel_rfl
  i2 := by kernel_rfl
  i3 := by kernel_rfl
  i4 := by kernel_rfl
  i5 := by kernel_rfl
  i9 := by kernel_rfl
  i20 := by kernel_rfl
  i21 := by kernel_rfl
  i37 := by kernel_rfl
  i46 := by kernel_rfl
  i51 := by kernel_rfl
  i53 := by kernel_rfl
  i75 := by kernel_rfl
  i76 := by kernel_rfl
  i80 := by kernel_rfl
  i85 := by kernel_rfl
  i127 := by kernel_rfl
  i143 := by kernel_rfl
  i145 := by kernel_rfl
  i167 := by kernel_rfl
  i168 := by kernel_rfl
  i171 := by kernel_rfl
  i173 := by kernel_rfl
  i175 := by kernel_rfl
  i210 := by kernel_rfl
  i212 := by kernel_rfl
  i232 := by kernel_rfl
  i233 := by kernel_rfl
  m15 := by kernel_rfl
  m16 := by kernel_rfl
  m17 := by kernel_rfl
  m18 := by kernel_rfl
  m19 := by kernel_rfl
  c0 := by kernel_rfl
  c2 := by kernel_rfl
  c3 := by kernel_rfl
  c4 := by kernel_rfl
  c5 := by kernel_rfl
  c9 := by kernel_rfl
  c20 := by kernel_rfl
  c21 := by kernel_rfl
  c37 := by kernel_rfl
  c46 := by kernel_rfl
  c51 := by kernel_rfl
  c53 := by kernel_rfl
  c75 := by kernel_rfl
  c76 := by kernel_rfl
  c80 := by kernel_rfl
  c85 := by kernel_rfl
  c127 := by kernel_rfl
  c143 := by kernel_rfl
  c145 := by kernel_rfl
  c167 := by kernel_rfl
  c168 := by kernel_rfl
  c171 := by kernel_rfl
  c173 := by kernel_rfl
  c175 := by kernel_rfl
  c210 := by kernel_rfl
  c212 := by kernel_rfl
  c213 := by kernel_rfl
  c232 := by kernel_rfl
  c233 := by kernel_rfl }
def Tryd.lays99_ren : Go.Shelf.Ren := ⟨fun | 99 => 45 | 206 => 54 | n => n, fun | 9 => 9 | 4 => 4 | 3 => 3 | n => n, fun | n => n⟩
theorem Tryd.lays99 : Go.Proofs.Lays.n99 Tryd.prog Tryd.lays99_ren := {
  mixed := by kernel_rfl
  f99 := Tryd.func45.trans (congrArg some (by kernel_rfl))
  f206 := Tryd.func54.trans (congrArg some (by kernel_rfl))
  t3 := Tryd.underlying3
  a3 := Tryd.isAgg3
  z3 := Tryd.sizeOf3
  v3 := Tryd.zeroValue3
  t4 := Tryd.underlying4
  a4 := Tryd.isAgg4
  z4 := Tryd.sizeOf4
  v4 := Tryd.zeroValue4
  t9 := Tryd.underlying9
  a9 := Tryd.isAgg9
  z9 := Tryd.sizeOf9
  v9 := Tryd.zeroValue9 }
open Go.RowKit Go.Lib in
/-- strings.HasPrefix: "HasPrefix reports whether the string s begins with prefix.": IT RETURNS 'Lib.hasPrefix s prefix'; the world is as it was. (LAID: no walk: one application.) -/
theorem Tryd.strings_HasPrefix (s p : ByteArray) (w : World) :
    Calls Tryd.prog 45 #[.string s, .string p] w fun e w' => e = .returned (.bool (Lib.hasPrefix s.data.toList p.data.toList)) ∧ w' = w := Any.strings_HasPrefix Tryd.lays99 s p w
end Go.Proofs

/- Chapter 03: what the library gives: the laid variables, numbers read and written, prefixes, texts joined. -/
-- STRINGS
namespace Go.Lx
theorem val_app (acc : Nat) : ∀ (s : List UInt8), acc ≤ s.foldl (fun n c => 10 * n + (c.toNat - 48)) acc
  | [] => Nat.le_refl _
  | c :: s => Nat.le_trans (by omega) (val_app (10 * acc + (c.toNat - 48)) s)
theorem parse_digits : ∀ (s : List UInt8) (acc : Nat), (∀ c ∈ s, digitB c = true) → acc < 18446744073709551616 → Lib.parseUint10 acc s = if s.foldl (fun n c => 10 * n + (c.toNat - 48)) acc < 18446744073709551616 then .ok (s.foldl (fun n c => 10 * n + (c.toNat - 48)) acc) else .range
  | [], acc, _, ha => by rw [Lib.parseUint10, List.foldl_nil, if_pos ha]
  | c :: s, acc, h, ha => by
    have hc := h c (by simp)
    unfold digitB inR at hc
    rw [decide_eq_true_iff] at hc
    rw [Lib.parseUint10, if_pos hc, List.foldl_cons]
    have hle := val_app (10 * acc + (c.toNat - 48)) s
    by_cases h1 : 1844674407370955162 ≤ acc
    · rw [if_pos h1, if_neg (by omega)]
    · rw [if_neg h1]
      by_cases h2 : 18446744073709551616 ≤ acc * 10 + (c.toNat - 48)
      · rw [if_pos h2, if_neg (by omega)]
      · rw [if_neg h2, Nat.mul_comm acc 10]
        exact parse_digits s _ (fun x hx => h x (List.mem_cons_of_mem _ hx)) (by omega)
theorem atoi_digits {s : List UInt8} (h : ∀ c ∈ s, digitB c = true) (hne : s ≠ []) : Lib.atoiAll s = if valF s < 9223372036854775808 then .ok (valF s) else .range := by
  cases s with
  | nil => exact absurd rfl hne
  | cons c r =>
    have hc := h c (by simp)
    unfold digitB inR at hc
    rw [decide_eq_true_iff] at hc
    have hp := parse_digits (c :: r) 0 h (by decide)
    have hv : valF (c :: r) = (c :: r).foldl (fun n c => 10 * n + (c.toNat - 48)) 0 := rfl
    rw [← hv] at hp
    unfold Lib.atoiAll
    simp only
    rw [if_neg (by omega)]
    unfold Lib.parseMag
    rw [if_neg (by simp), hp]
    by_cases h1 : valF (c :: r) < 18446744073709551616
    · rw [if_pos h1]
      simp only
      by_cases h2 : valF (c :: r) < 9223372036854775808
      · rw [if_neg (by omega), if_neg (by omega), if_neg (by omega), if_pos h2]
      · rw [if_pos ⟨by omega, by omega⟩, if_neg h2]
    · rw [if_neg h1, if_neg (by omega)]
theorem dec_lib : ∀ n, Lib.decDigits n = decF n := by
  refine nat_ind10 (fun n h => ?_) fun n h ih => ?_
  · rw [Lib.decDigits, dif_pos h, decF_small h]
  · rw [Lib.decDigits, dif_neg h, decF_big h, ih]
theorem itoa_lib (n : Nat) : Lib.itoa n = decF n := by
  unfold Lib.itoa
  rw [if_neg (by omega), Int.toNat_natCast, dec_lib]
theorem join_lib : ∀ l : List (List UInt8), Lib.join l [32] = joinF l
  | [] => rfl
  | [w] => by rw [Lib.join_one]; rfl
  | w :: v :: l => by rw [joinF_cons, ← join_lib (v :: l), Lib.join_cons, Lib.join_cons]; rfl
end Go.Lx
namespace Go.Proofs.YtdpabdbeecbnmaaDoor
open Go Go.RowKit Go.Kx Go.Fr Go.Lx
def powG : Nat := (Tryd.laysM171_ren).g 17
def rangeG : Nat := (Tryd.laysC172_ren).g 16
theorem pow_named : Tryd.prog.globalNamed "internal/strconv.uint64pow10" = some powG := by kernel_rfl
/-- The library's variables: the powers of ten, and what ErrRange holds. -/
def Lab : Ent where
  foot := []
  rel F w := F powG ∧ F rangeG ∧ powG < w.heap.size ∧ rangeG < w.heap.size ∧ Lib.TabIs Tryd.prog w "internal/strconv.uint64pow10" .u64 Lib.pow10Tab ∧ ∃ te pe, w.cell? ⟨rangeG, 0, none⟩ = some (.iface te pe)
  mono := by
    rintro S S' w w' ⟨h1, h2, h3, h4, h5, te, pe, h6⟩ hk _
    obtain ⟨a1, a2⟩ := hk powG h1 h3
    obtain ⟨b1, b2⟩ := hk rangeG h2 h4
    have lt : ∀ {g}, g < w.heap.size → w'.heap[g]? = w.heap[g]? → g < w'.heap.size := fun {g} h e => by
      have : w.heap[g]? ≠ none := by rw [Array.getElem?_eq_getElem h]; simp
      rw [← e] at this
      exact Nat.lt_of_not_le fun h => this (Array.getElem?_eq_none h)
    refine ⟨a1, b1, lt h3 a2, lt h4 b2, ?_, te, pe, (World.cell?_of_block (w := w) b2).trans h6⟩
    unfold Lib.TabIs World.var? at h5 ⊢
    rw [pow_named] at h5 ⊢
    simp only [Option.bind_some] at h5 ⊢
    rw [a2]; exact h5
theorem itoa_any (n : Nat) (h : n ≤ 9223372036854775807) : FnC Tryd.prog 36 [exI .i64 (n : Int)] [Lab] (fun p loc => p = exT (decF n) ∧ loc = []) := by
  refine FnC_tab fun F w vals ht hA => ?_
  obtain ⟨v, rfl, rfl⟩ := cells1 hA
  refine (Tryd.strconv_Itoa (n : Int) (by omega) (by omega) w ht.2.2.2.2.1).mono ?_
  rintro e w' ⟨rfl, k, os, rfl⟩
  refine ⟨_, _, rfl, ⟨rfl, rfl⟩, ?_, ?_⟩
  · show Value.string _ = Value.string _
    rw [itoa_lib]
  · refine ⟨rfl, rfl, rfl, ?_, fun j hj => ?_⟩
    · show w.heap.size ≤ (w.heap ++ os).size; simp
    · show (w.heap ++ os)[j]? = w.heap[j]?; exact Array.getElem?_append_left hj
theorem atoi_ok_any (s : List UInt8) (hd : ∀ c ∈ s, digitB c = true) (hne : s ≠ []) (hl : s.length ≤ 65536) (hv : valF s < 9223372036854775808) : FnC Tryd.prog 44 [exT s] [] (fun p loc => p = tup [exI .i64 (valF s : Int), ex .nilIface] ∧ loc = []) := by
  refine FnC_of fun F w vals h => ?_
  obtain ⟨v, rfl, rfl⟩ := cells1 h
  refine (Any.strconv_Atoi_ok Tryd.laysC172 ⟨s.toArray⟩ (by show s.toArray.size ≤ _; rw [List.size_toArray]; omega) (valF s) (by show Lib.atoiAll s = _; rw [atoi_digits hd hne, if_pos hv]) w).mono ?_
  rintro e w' ⟨rfl, hw⟩
  refine ⟨_, _, rfl, ⟨rfl, rfl⟩, ?_, ?_⟩
  · exact ⟨_, rfl, .cons rfl (.cons rfl .nil)⟩
  · rcases hw with rfl | ⟨t, rfl⟩
    · exact Below.refl _ _
    · exact Lib.bytesWorld_below w _ t
theorem atoi_range_any (s : List UInt8) (hd : ∀ c ∈ s, digitB c = true) (hne : s ≠ []) (hl : s.length ≤ 65536) (hv : ¬ valF s < 9223372036854775808) : FnC Tryd.prog 44 [exT s] [Lab] (fun p loc => (∃ (n : Int) (N : Nat), p = tup [exI .i64 n, ex (.iface ((Tryd.laysC172_ren).t 168) (.pointer (some ⟨N, 0, none⟩)))]) ∧ loc = []) := by
  refine FnC_tab fun F w vals ht h => ?_
  obtain ⟨v, rfl, rfl⟩ := cells1 h
  obtain ⟨-, -, -, -, -, te, pe, hc⟩ := ht
  refine (Any.strconv_Atoi_range Tryd.laysC172 ⟨s.toArray⟩ (by show s.toArray.size ≤ _; rw [List.size_toArray]; omega) (by show Lib.atoiAll s = _; rw [atoi_digits hd hne, if_neg hv]) _ w hc (.inr ⟨_, _, rfl⟩)).mono ?_
  rintro e w' ⟨N, rfl, h1, h2, h3⟩
  refine ⟨_, _, rfl, ⟨⟨Lib.atoiSat s, N, rfl⟩, rfl⟩, ?_, h3⟩
  exact ⟨_, rfl, .cons rfl (.cons rfl .nil)⟩
theorem hasPrefix_any (s t : List UInt8) : FnC Tryd.prog 45 [exT s, exT t] [] (fun p loc => p = exB (t.isPrefixOf s) ∧ loc = []) := by
  refine FnC_of fun F w vals h => ?_
  obtain ⟨v, u, rfl, rfl, rfl⟩ := h.two
  refine (Tryd.strings_HasPrefix ⟨s.toArray⟩ ⟨t.toArray⟩ w).mono ?_
  rintro e w' ⟨rfl, rfl⟩
  exact ⟨_, _, rfl, ⟨rfl, rfl⟩, rfl, Below.refl _ _⟩
end Go.Proofs.YtdpabdbeecbnmaaDoor

/- Tokens, texts and bytes as arguments; the world in which the listed variables are laid; what the rows' condition gives. -/
namespace Go.Proofs.YtdpabdbeecbnmaaDoor
open Go Go.RowKit Go.Kx Go.Fr Go.Lx Go.ChangeShapes Go.WideShapes Go.ChangeAt
theorem Tryd.own : ownKnob Tryd.prog.godebug = none := by kernel_rfl
theorem Tryd.laidOut : laidOutB Tryd.prog = true := by kernel_rfl
theorem rdT : Reads Tryd.prog 9 eStr := reads_text Tryd.underlying9
theorem rdI : Reads Tryd.prog 3 eI := reads_i Tryd.underlying3
theorem rdTok (K : Nat) : ReadsK Tryd.prog 35 K eTok := by
  intro H enc w fuel cs x hK h hw
  obtain ⟨a0, h0⟩ := readsK_part (K := K) Tryd.underlying35 h hw (by omega) 0 _ rfl fits_int (rdI.at _) 0 1 rfl (by kernel_rfl)
  obtain ⟨a1, h1⟩ := readsK_part (K := K) Tryd.underlying35 h hw (by omega) 1 _ rfl fits_str (rdT.at _) 1 1 rfl (by kernel_rfl)
  obtain ⟨a2, h2⟩ := readsK_part (K := K) Tryd.underlying35 h hw (by omega) 2 _ rfl fits_int (rdI.at _) 2 1 rfl (by kernel_rfl)
  obtain ⟨a3, h3⟩ := readsK_part (K := K) Tryd.underlying35 h hw (by omega) 3 _ rfl fits_int (rdI.at _) 3 1 rfl (by kernel_rfl)
  have hl := trod_len Tryd.underlying35 h (n := 4) (by kernel_rfl)
  exact ⟨⟨a0, a1, a2, a3⟩, hl, (CellsR.parts h0 (CellsR.parts h1 (CellsR.parts h2 (CellsR.parts h3 (CellsR.parts0 hl) rfl) rfl) rfl) rfl)⟩
theorem rdTokens (K : Nat) : ReadsK Tryd.prog 23 K (eSl eTok) := readsK_slice Tryd.underlying23 (by kernel_rfl) (Nat.zero_lt_succ _) (by kernel_rfl) (rdTok K)
theorem rdBytes' (K : Nat) : ReadsK Tryd.prog 38 K (eSl eByte) := readsK_slice Tryd.underlying38 (by kernel_rfl) (by decide) (by kernel_rfl) ((reads_byte Tryd.underlying5).at K)
/-- A text as an argument, with its bound. -/
theorem ArgIn.text2 {P : Program} {W : World} {t : TypeId} {v : Value} (h : ArgIn P W t v) (ht : P.underlying t = some .string) : ∃ l : List UInt8, (exT l).rel (fun _ => True) W v ∧ l.length ≤ 140737488351232 := by
  obtain ⟨base, H, enc, d, p, hok, ⟨fuel, hf⟩, hw⟩ := h
  obtain ⟨s, rfl⟩ := okWide_string ht hok
  obtain ⟨s', hs, hx, hl⟩ := DataW.trod_string ht hf
  simp only [Value.cells, List.cons.injEq, and_true, Value.string.injEq] at hs
  subst hs
  refine ⟨s.data.toList, rfl, ?_⟩
  simp only [Prod.mk.injEq] at hx
  rw [hx.1] at hw
  exact hw _ (by simp [DataW.weights])
theorem laidMet_tail {P : Program} {W : World} {x : String × DataW Unit} {rest : List (String × DataW Unit)} (h : laidMet P (x :: rest) W) : laidMet P rest W := by
  obtain ⟨n, d⟩ := x
  obtain ⟨ps, ⟨g, t, cs, fuel, p, q, _, _, _, _, h5, rfl⟩, hn, hc⟩ := h
  exact ⟨q, h5, (List.nodup_append.1 hn).2.1, fun b off hm => hc b off (List.mem_append_right _ hm)⟩
theorem powT : (Tryd.prog.globals[powG]?).map (·.type) = some 100 := by kernel_rfl
theorem pow_data : (Rows.laid_internal_strconv_uint64pow10 : DataW Unit) = Lib.tabData .u64 Lib.pow10Tab := by kernel_rfl
theorem range_named : Tryd.prog.globalNamed "strconv.ErrRange" = some rangeG := by kernel_rfl
theorem rangeT : (Tryd.prog.globals[rangeG]?).map (·.type) = some 61 := by kernel_rfl
theorem lab_laid {W : World} (h : laidMetH Tryd.prog [("math/bits.deBruijn32tab", Rows.laid_math_bits_deBruijn32tab), ("math/bits.deBruijn64tab", Rows.laid_math_bits_deBruijn64tab), ("internal/strconv.uint64pow10", Rows.laid_internal_strconv_uint64pow10), ("strconv.ErrRange", Rows.laid_strconv_ErrRange), ("strconv.ErrSyntax", Rows.laid_strconv_ErrSyntax)] W) : Lab.rel (fun _ => True) W := by
  have h1 : laidMet Tryd.prog [("math/bits.deBruijn32tab", Rows.laid_math_bits_deBruijn32tab), ("math/bits.deBruijn64tab", Rows.laid_math_bits_deBruijn64tab), ("internal/strconv.uint64pow10", Rows.laid_internal_strconv_uint64pow10), ("strconv.ErrRange", Rows.laid_strconv_ErrRange), ("strconv.ErrSyntax", Rows.laid_strconv_ErrSyntax)] W := h
  have h2 := laidMet_tail (laidMet_tail h1)
  have h4 := laidMet_tail h2
  rw [pow_data] at h2
  have h3 : Lib.TabIs Tryd.prog W "internal/strconv.uint64pow10" .u64 Lib.pow10Tab := Lib.tabIs_of_head pow_named powT Tryd.underlying100 Tryd.underlying83 (by kernel_rfl) (by kernel_rfl) h2
  have c1 := h3.cell pow_named 0 (by decide)
  obtain ⟨ps, ⟨g, t, cs, fuel, p, q, g1, g2, g3, g4, -, -⟩, -⟩ := h4
  obtain rfl := Option.some.inj (range_named.symm.trans g1)
  obtain rfl := Option.some.inj (rangeT.symm.trans g2)
  obtain ⟨f2, u, v, e, -, -⟩ := iface_of_trod Tryd.underlying61 g4
  have c2 : W.cell? ⟨rangeG, 0, none⟩ = some (.iface u v) := by
    have := World.var?_cell range_named g3 0
    rw [show cs[0]? = cs.toList[0]? by simp, e] at this
    exact this
  exact ⟨trivial, trivial, (cell_lt c1).1, (cell_lt c2).1, h3, u, v, c2⟩
/-- A law's contract that leans on the library's variables, without the frame. -/
theorem lawL_of {P : Program} {f : FuncId} {args : List SP} {e0 : Ent} (hfoot : e0.foot = []) (h : FnC P f args [e0] (fun p loc => p = exB true ∧ loc = [])) {w : World} {vals : List Value} (ht : e0.rel (fun _ => True) w) (hA : CellsR (fun _ => True) w args vals) : Calls P f vals.toArray w fun e w' => e = .returned (.bool true) ∧ Below w.heap.size w w' := by
  refine (h (fun _ => True) w vals [] ⟨fun e he => (by simp at he; subst he; exact ht), fun e he => (by simp at he; subst he; intro b hb; rw [hfoot] at hb; cases hb), (by simp [hfoot])⟩ hA).mono ?_
  rintro e w' ⟨v, F', p, loc', rfl, ⟨rfl, rfl⟩, hp, _, hch, _, _⟩
  have hv : v = .bool true := hp
  subst hv
  exact ⟨rfl, hch.os, hch.tape, hch.output, hch.size, fun k hk => hch.block k hk fun ⟨e, he, hb⟩ => (by simp at he; subst he; rw [hfoot] at hb; cases hb)⟩
/-- The settled world, the variables laid. -/
noncomputable def laidW (os : Os) : World :=
  let w0 := World.holding Tryd.prog os ⟨#[], #[], []⟩
  let n := w0.heap.size
  let put (h : Array Obj) (g : Option Nat) (cs : Array Value) : Array Obj := h.modify (g.getD 0) fun
    | .cells _ t fr => .cells cs t fr
    | o => o
  let h1 := put w0.heap (Tryd.prog.globalNamed "math/bits.deBruijn32tab") #[.int .u8 0, .int .u8 1, .int .u8 28, .int .u8 2, .int .u8 29, .int .u8 14, .int .u8 24, .int .u8 3, .int .u8 30, .int .u8 22, .int .u8 20, .int .u8 15, .int .u8 25, .int .u8 17, .int .u8 4, .int .u8 8, .int .u8 31, .int .u8 27, .int .u8 13, .int .u8 23, .int .u8 21, .int .u8 19, .int .u8 16, .int .u8 7, .int .u8 26, .int .u8 12, .int .u8 18, .int .u8 6, .int .u8 11, .int .u8 5, .int .u8 10, .int .u8 9]
  let h2 := put h1 (Tryd.prog.globalNamed "math/bits.deBruijn64tab") #[.int .u8 0, .int .u8 1, .int .u8 56, .int .u8 2, .int .u8 57, .int .u8 49, .int .u8 28, .int .u8 3, .int .u8 61, .int .u8 58, .int .u8 42, .int .u8 50, .int .u8 38, .int .u8 29, .int .u8 17, .int .u8 4, .int .u8 62, .int .u8 47, .int .u8 59, .int .u8 36, .int .u8 45, .int .u8 43, .int .u8 51, .int .u8 22, .int .u8 53, .int .u8 39, .int .u8 33, .int .u8 30, .int .u8 24, .int .u8 18, .int .u8 12, .int .u8 5, .int .u8 63, .int .u8 55, .int .u8 48, .int .u8 27, .int .u8 60, .int .u8 41, .int .u8 37, .int .u8 16, .int .u8 46, .int .u8 35, .int .u8 44, .int .u8 21, .int .u8 52, .int .u8 32, .int .u8 23, .int .u8 11, .int .u8 54, .int .u8 26, .int .u8 40, .int .u8 15, .int .u8 34, .int .u8 20, .int .u8 31, .int .u8 10, .int .u8 25, .int .u8 14, .int .u8 19, .int .u8 9, .int .u8 13, .int .u8 8, .int .u8 7, .int .u8 6]
  let h3 := put h2 (Tryd.prog.globalNamed "internal/strconv.uint64pow10") #[.int .u64 1, .int .u64 10, .int .u64 100, .int .u64 1000, .int .u64 10000, .int .u64 100000, .int .u64 1000000, .int .u64 10000000, .int .u64 100000000, .int .u64 1000000000, .int .u64 10000000000, .int .u64 100000000000, .int .u64 1000000000000, .int .u64 10000000000000, .int .u64 100000000000000, .int .u64 1000000000000000, .int .u64 10000000000000000, .int .u64 100000000000000000, .int .u64 1000000000000000000, .int .u64 10000000000000000000]
  let h4 := put h3 (Tryd.prog.globalNamed "strconv.ErrRange") #[.iface 106 (.pointer (some ⟨n, 0, none⟩))]
  let h5 := put h4 (Tryd.prog.globalNamed "strconv.ErrSyntax") #[.iface 106 (.pointer (some ⟨n + 1, 0, none⟩))]
  { w0 with heap := (h5.push (.cells #[.string ⟨#[118, 97, 108, 117, 101, 32, 111, 117, 116, 32, 111, 102, 32, 114, 97, 110, 103, 101]⟩] 108 (0, 0))).push (.cells #[.string ⟨#[105, 110, 118, 97, 108, 105, 100, 32, 115, 121, 110, 116, 97, 120]⟩] 108 (0, 0)) }
end Go.Proofs.YtdpabdbeecbnmaaDoor

/- Chapter 03: texts joined; the scanner's name, space. -/
-- STRINGS
-- ROWS
-- PRUNEC
-- IFACE
namespace Go.Fr
open Go.RowKit Go.Kx
theorem FnP_args {P : Program} {f : FuncId} {args args' : List SP} {inn : List Ent} {R : SP → List Ent → Prop} {Rp : List PanicEntry → List Ent → Prop} (h : FnP P f args' inn R Rp) (hi : Ims args args') : FnP P f args inn R Rp := fun F w vals out hG hA => h F w vals out hG (hi.cells hA)
end Go.Fr
namespace Go.Proofs.YtdpabdbeecbnmaaDoor
open Go Go.RowKit Go.Kx Go.Fr Go.Lx
theorem join_any (l : List (List UInt8)) (hl : l.length ≤ 140737488355328) (hj : (joinF l).length ≤ 140737488355328) : FnC Tryd.prog 37 [isl eStr l, exT [32]] [] (fun p loc => p = exT (joinF l) ∧ loc = []) := by
  refine FnC_of fun F w vals h => ?_
  obtain ⟨v, u, rfl, h1, h2⟩ := h.two
  obtain ⟨oa, n, c, rfl, hs⟩ := h1
  have h2 : u = .string ⟨#[32]⟩ := h2
  subst h2
  obtain rfl := hs.length
  have hlm : l.map (fun x : List UInt8 => (⟨x.toArray⟩ : ByteArray).data.toList) = l := by
    conv => rhs; rw [← List.map_id l]
    rfl
  cases hl0 : l with
  | nil =>
    subst hl0
    refine (Tryd.strings_Join_none oa c ⟨#[32]⟩ w).mono ?_
    rintro e w' ⟨rfl, rfl⟩
    exact ⟨_, _, rfl, ⟨rfl, rfl⟩, rfl, Below.refl _ _⟩
  | cons x r =>
    rw [← hl0]
    obtain ⟨b, off, cs, rfl, -, hb, -, -, -⟩ := hs.elem 0 (by rw [hl0]; simp)
    have hcells : ∀ (j : Nat) y, (l.map fun x => (⟨x.toArray⟩ : ByteArray))[j]? = some y → w.cell? ⟨b, off + j, none⟩ = some (.string y) := by
      intro j y hy
      rw [List.getElem?_map] at hy
      obtain ⟨z, hz, rfl⟩ := Option.map_eq_some_iff.1 hy
      obtain ⟨hjl, rfl⟩ := List.getElem?_eq_some_iff.1 hz
      obtain ⟨b', off', cs', e1, -, -, -, h4, h5⟩ := hs.elem j hjl
      injection e1 with e1
      injection e1 with e2 e3
      subst e2 e3
      have h6 := h4 0 (by decide)
      have e7 : cs' = [.string ⟨l[j].toArray⟩] := h5
      subst e7
      have : eStr.size = 1 := rfl
      rw [this, Nat.mul_one, Nat.add_zero] at h6
      exact h6
    have hjn : Lib.join ((l.map fun x => (⟨x.toArray⟩ : ByteArray)).map (·.data.toList)) (⟨#[32]⟩ : ByteArray).data.toList = joinF l := by
      rw [List.map_map]
      show Lib.join (l.map (fun x : List UInt8 => (⟨x.toArray⟩ : ByteArray).data.toList)) [32] = _
      rw [hlm, join_lib]
    have hJ := Tryd.strings_Join b off c (l.map fun x => ⟨x.toArray⟩) ⟨#[32]⟩ w hcells hb (by rw [List.length_map]; exact hl) (by rw [List.length_map]; exact hs.cap) (by rw [hjn]; exact hj)
    rw [hjn, List.length_map] at hJ
    refine hJ.mono ?_
    rintro e w' ⟨rfl, hb⟩
    exact ⟨_, _, rfl, ⟨rfl, rfl⟩, rfl, hb⟩
/-- What a method does at a place. -/
def stepR (b i : Nat) (s : List UInt8) (acc : List TokD) : SP → List Ent → Prop := fun _ loc => ∃ (n : Nat) (oa : Option Addr) (c : Nat) (acc2 : List TokD), loc = scanL b (i + n) s oa c acc2 ∧ 1 ≤ n ∧ i + n ≤ s.length ∧ acc2.length ≤ acc.length + 1 ∧ (lexF i (s.drop i)).map (acc ++ ·) = (lexF (i + n) (s.drop (i + n))).map (acc2 ++ ·)
def stepP (i : Nat) (s : List UInt8) : List PanicEntry → List Ent → Prop := fun ch loc => lexF i (s.drop i) = .error i ∧ placeP 42 i ch loc
theorem runF_name (s : List UInt8) : runF [2, 3, 5] s = s.takeWhile partB := by
  unfold runF
  congr 1
  funext c
  exact byte_all (P := fun c => decide (classF c ∈ ([2, 3, 5] : List Int)) = partB c) (by decide +kernel) c
theorem runF_digit (s : List UInt8) : runF [3] s = s.takeWhile digitB := by
  unfold runF
  congr 1
  funext c
  exact byte_all (P := fun c => decide (classF c ∈ ([3] : List Int)) = digitB c) (by decide +kernel) c
theorem runF_space (s : List UInt8) : runF [1] s = s.takeWhile spaceB := by
  unfold runF
  congr 1
  funext c
  exact byte_all (P := fun c => decide (classF c ∈ ([1] : List Int)) = spaceB c) (by decide +kernel) c
set_option maxHeartbeats 4000000 in
set_option maxRecDepth 100000 in
theorem name3_any (b i : Nat) (s : List UInt8) (oa : Option Addr) (c : Nat) (acc : List TokD) (hi : i < s.length) (hmax : s.length ≤ 65536) (hacc : acc.length ≤ i) (h : letterB s[i] = true) : FnP Tryd.prog 26 [ex (.pointer (some ⟨b, 0, none⟩))] (scanL b i s oa c acc) (stepR b i s acc) (stepP i s) := by
  obtain ⟨h1, h2, h3, h4⟩ := at_name hi h
  have hrun := run3_any b i s (ex (.slice oa acc.length c)) [2, 3, 5] (by omega) hmax
  rw [runF_name] at hrun
  have hadd := add3_any b i s ((s.drop i).takeWhile partB) ⟨1, (s.drop i).takeWhile partB, 0, 0⟩ oa c acc (by omega) (by omega)
  have hvb : validB ⟨1, (s.drop i).takeWhile partB, 0, 0⟩ = nameB ((s.drop i).takeWhile partB) := by
    unfold validB; rw [if_pos rfl, decide_eq_true rfl, Bool.and_true]
  rw [hvb] at hadd
  generalize (s.drop i).takeWhile partB = t at h1 h2 h3 h4 hrun hadd
  unfold scanL at hadd
  unfold scanL
  refine FnP_enter Tryd.func26 rfl Tryd.ntmps26 rfl fun w0 F0 out => ?_
  (repeat' (first | (apply at_dst 5; refine WPL_frow (k := 0) (E := eI) (t := 4) [2, 3, 5] rfl rfl rfl rfl ?_ (hc := by decide) (hby := by decide)) | (apply at_dst 10; refine WPL_callP (.one 0 rfl (.one 0 rfl .nil)) Tryd.func43 rfl hadd rfl ?_ ?_) | refine WP_seq ?_ | refine WP_region ?_ | refine WPL_nil ?_ | (apply WPL_t; (first | exact WT_move rfl | exact WT_assign rfl | (apply g_build; first | exact WT_build2 rfl rfl (by repeat (first | exact PartsO.nil | (apply PartsO.cons; exact rfl; exact inferInstance; exact rfl; exact rfl))))); exact rfl) | (apply WPL_op0; exact rfl; first | (apply g_callf; first | (refine WO_callG (.one 0 rfl .nil) Tryd.func42 rfl hrun rfl ?_; rintro _ _ ⟨rfl, rfl⟩)) | (apply g_bslice; (first | refine WO_bslice rfl (by repeat (first | exact PartsO.nil | (apply PartsO.cons; exact rfl; exact inferInstance; exact rfl; exact rfl))) ?_); intro _))))
  · rintro p loc ⟨hv, oa2, c2, rfl⟩
    (repeat' (first | refine WPL_nil ?_))
    exact ⟨.inl rfl, ret0 (loc' := scanL b (i + t.length) s oa2 c2 (acc ++ [⟨1, t, 0, i⟩])) rfl (by exact List.Sublist.refl _) ⟨t.length, oa2, c2, _, rfl, h3, h4, by simp, by rw [h1 hv, map_app]⟩⟩
  · rintro ch loc ⟨hv, rfl, rfl⟩
    refine panic_here (loc' := []) (List.nil_sublist _) ?_
    exact ⟨h2 hv, rfl, rfl⟩
set_option maxHeartbeats 4000000 in
set_option maxRecDepth 100000 in
theorem space3_any (b i : Nat) (s : List UInt8) (oa : Option Addr) (c : Nat) (acc : List TokD) (hi : i < s.length) (hmax : s.length ≤ 65536) (h : spaceB s[i] = true) : FnP Tryd.prog 25 [ex (.pointer (some ⟨b, 0, none⟩))] (scanL b i s oa c acc) (stepR b i s acc) (stepP i s) := by
  obtain ⟨h1, h3, h4⟩ := at_space hi h
  have hrun := run3_any b i s (ex (.slice oa acc.length c)) [1] (by omega) hmax
  rw [runF_space] at hrun
  generalize (s.drop i).takeWhile spaceB = t at h1 h3 h4 hrun
  refine FnC.toP _ ?_
  unfold scanL
  refine FnC_enter Tryd.func25 rfl Tryd.ntmps25 rfl fun w0 F0 out => ?_
  refine WP_cut1 (fun _ : Unit => ([], [row b 49 3 [exT s, exI .i64 ((i : Int) + (t.length : Int)), ex (.slice oa acc.length c)], vec (.slice oa acc.length c) 35 4 acc.length (acc.flatMap tokV)])) (fun _ => True) ?_ fun _ _ => ?_
  · skip
    (refine WP_drawl 5 rfl ?_)
    (try (first | (refine WPY_leads (by decide +kernel) (Leads_frow (k := 0) (E := eI) (t := 7) [1] rfl rfl rfl rfl (hc := by decide) (hby := by decide)) ?_)))
    (apply WPY_pure 0 rfl (by decide +kernel) rfl (by repeat (first | exact np_ret)) guard_none; (first | exact WT_move rfl); exact rfl)
    (try (first | (refine WPY_leads (by decide +kernel) (Leads_frow (k := 0) (E := eI) (t := 7) [1] rfl rfl rfl rfl (hc := by decide) (hby := by decide)) ?_)))
    (apply WPY_pure 1 rfl (by decide +kernel) rfl (by repeat (first | exact np_ret)) guard_none; (first | (apply g_nilck; first | exact WT_nilck rfl)); exact rfl)
    (try (first | (refine WPY_leads (by decide +kernel) (Leads_frow (k := 0) (E := eI) (t := 7) [1] rfl rfl rfl rfl (hc := by decide) (hby := by decide)) ?_)))
    (apply WPY_pure 2 rfl (by decide +kernel) rfl (by repeat (first | exact np_ret)) guard_none; (first | (apply g_fld; first | exact WT_field rfl rfl rfl)); exact rfl)
    (try (first | (refine WPY_leads (by decide +kernel) (Leads_frow (k := 0) (E := eI) (t := 7) [1] rfl rfl rfl rfl (hc := by decide) (hby := by decide)) ?_)))
    (apply WPY_pure 4 rfl (by decide +kernel) rfl (by repeat (first | exact np_ret)) guard_none; (first | exact WT_move rfl); exact rfl)
    (try (first | (refine WPY_leads (by decide +kernel) (Leads_frow (k := 0) (E := eI) (t := 7) [1] rfl rfl rfl rfl (hc := by decide) (hby := by decide)) ?_)))
    (refine WPY_two (H1 := fun _ => True) (H2 := feet []) 3 5 (by decide +kernel) rfl guard_none (fun _ _ _ => trivial) rfl guard_none (fun h => absurd h (by decide)) ?_ ?_)
    ·
      ((apply WO_t (H := fun _ => True); (first | (apply g_load; first | exact WT_load (k := 0) rfl rfl rfl rfl)); exact rfl))
      (try (first | (refine WPY_leads (by decide +kernel) (Leads_frow (k := 0) (E := eI) (t := 7) [1] rfl rfl rfl rfl (hc := by decide) (hby := by decide)) ?_)))
      (refine WPY_one (H' := feet []) 5 (by decide +kernel) rfl guard_none (fun h => absurd h (by decide)) ?_)
      (first | (apply g_bslice; (first | refine WO_bslice1 rfl rfl ?_ | refine WO_bslice rfl (by repeat (first | exact PartsO.nil | (apply PartsO.cons; exact rfl; exact inferInstance; exact rfl; exact rfl))) ?_ | refine WO_bslice0 rfl ?_); intro _))
      (try (first | (refine WPY_leads (by decide +kernel) (Leads_frow (k := 0) (E := eI) (t := 7) [1] rfl rfl rfl rfl (hc := by decide) (hby := by decide)) ?_)))
      (refine WPY_one (H' := feet []) 6 (by decide +kernel) rfl guard_none (fun h => absurd h (by decide)) ?_)
      (first | (apply g_callf; first | (refine WO_callG (.one 0 rfl .nil) Tryd.func42 rfl hrun rfl ?_; rintro _ _ ⟨rfl, rfl⟩)))
      (try (first | (refine WPY_leads (by decide +kernel) (Leads_frow (k := 0) (E := eI) (t := 7) [1] rfl rfl rfl rfl (hc := by decide) (hby := by decide)) ?_)))
      (refine WPY_one (H' := fun _ => True) 7 (by decide +kernel) rfl guard_none (fun _ _ _ => trivial) ?_)
      ((apply WO_t (H := fun _ => True); (first | (apply g_call; first | exact WT_lent rfl rfl)); exact rfl))
      (try (first | (refine WPY_leads (by decide +kernel) (Leads_frow (k := 0) (E := eI) (t := 7) [1] rfl rfl rfl rfl (hc := by decide) (hby := by decide)) ?_)))
      (refine WPY_one (H' := fun _ => True) 8 (by decide +kernel) rfl guard_none (fun _ _ _ => trivial) ?_)
      ((apply WO_t (H := fun _ => True); (first | (apply g_bin; first | exact WT_add rfl rfl)); exact rfl))
      (try (first | (refine WPY_leads (by decide +kernel) (Leads_frow (k := 0) (E := eI) (t := 7) [1] rfl rfl rfl rfl (hc := by decide) (hby := by decide)) ?_)))
      (refine WPY_one (H' := fun _ => True) 9 (by decide +kernel) rfl guard_none (fun _ _ _ => trivial) ?_)
      ((apply WO_t (H := fun _ => True); (first | (apply g_nilck; first | exact WT_nilck rfl)); exact rfl))
      (try (first | (refine WPY_leads (by decide +kernel) (Leads_frow (k := 0) (E := eI) (t := 7) [1] rfl rfl rfl rfl (hc := by decide) (hby := by decide)) ?_)))
      (refine WPY_one (H' := fun _ => True) 10 (by decide +kernel) rfl guard_none (fun _ _ _ => trivial) ?_)
      ((apply WO_t (H := fun _ => True); (first | (apply g_fld; first | exact WT_field rfl rfl rfl)); exact rfl))
      (try (first | (refine WPY_leads (by decide +kernel) (Leads_frow (k := 0) (E := eI) (t := 7) [1] rfl rfl rfl rfl (hc := by decide) (hby := by decide)) ?_)))
      (refine WPY_one (H' := feet []) 11 (by decide +kernel) rfl guard_none (fun h => absurd h (by decide)) ?_)
      (first | (apply g_store; first | refine WO_store (k := 0) (l0 := []) rfl rfl rfl ?_))
      (try (first | (refine WPY_leads (by decide +kernel) (Leads_frow (k := 0) (E := eI) (t := 7) [1] rfl rfl rfl rfl (hc := by decide) (hby := by decide)) ?_)))
      refine WPY_done (by decide +kernel) ?_
      exact cut_here () trivial (Leads_env (by repeat (first | exact sub_nil | refine sub_cons rfl ?_)) (List.Sublist.refl _))
    ·
      (first | (apply g_bslice; (first | refine WO_bslice1 rfl rfl ?_ | refine WO_bslice rfl (by repeat (first | exact PartsO.nil | (apply PartsO.cons; exact rfl; exact inferInstance; exact rfl; exact rfl))) ?_ | refine WO_bslice0 rfl ?_); intro _))
      (try (first | (refine WPY_leads (by decide +kernel) (Leads_frow (k := 0) (E := eI) (t := 7) [1] rfl rfl rfl rfl (hc := by decide) (hby := by decide)) ?_)))
      (refine WPY_two (H1 := fun _ => True) (H2 := feet []) 3 6 (by decide +kernel) rfl guard_none (fun _ _ _ => trivial) rfl guard_none (fun h => absurd h (by decide)) ?_ ?_)
      ·
        ((apply WO_t (H := fun _ => True); (first | (apply g_load; first | exact WT_load (k := 0) rfl rfl rfl rfl)); exact rfl))
        (try (first | (refine WPY_leads (by decide +kernel) (Leads_frow (k := 0) (E := eI) (t := 7) [1] rfl rfl rfl rfl (hc := by decide) (hby := by decide)) ?_)))
        (refine WPY_one (H' := feet []) 6 (by decide +kernel) rfl guard_none (fun h => absurd h (by decide)) ?_)
        (first | (apply g_callf; first | (refine WO_callG (.one 0 rfl .nil) Tryd.func42 rfl hrun rfl ?_; rintro _ _ ⟨rfl, rfl⟩)))
        (try (first | (refine WPY_leads (by decide +kernel) (Leads_frow (k := 0) (E := eI) (t := 7) [1] rfl rfl rfl rfl (hc := by decide) (hby := by decide)) ?_)))
        (refine WPY_one (H' := fun _ => True) 7 (by decide +kernel) rfl guard_none (fun _ _ _ => trivial) ?_)
        ((apply WO_t (H := fun _ => True); (first | (apply g_call; first | exact WT_lent rfl rfl)); exact rfl))
        (try (first | (refine WPY_leads (by decide +kernel) (Leads_frow (k := 0) (E := eI) (t := 7) [1] rfl rfl rfl rfl (hc := by decide) (hby := by decide)) ?_)))
        (refine WPY_one (H' := fun _ => True) 8 (by decide +kernel) rfl guard_none (fun _ _ _ => trivial) ?_)
        ((apply WO_t (H := fun _ => True); (first | (apply g_bin; first | exact WT_add rfl rfl)); exact rfl))
        (try (first | (refine WPY_leads (by decide +kernel) (Leads_frow (k := 0) (E := eI) (t := 7) [1] rfl rfl rfl rfl (hc := by decide) (hby := by decide)) ?_)))
        (refine WPY_one (H' := fun _ => True) 9 (by decide +kernel) rfl guard_none (fun _ _ _ => trivial) ?_)
        ((apply WO_t (H := fun _ => True); (first | (apply g_nilck; first | exact WT_nilck rfl)); exact rfl))
        (try (first | (refine WPY_leads (by decide +kernel) (Leads_frow (k := 0) (E := eI) (t := 7) [1] rfl rfl rfl rfl (hc := by decide) (hby := by decide)) ?_)))
        (refine WPY_one (H' := fun _ => True) 10 (by decide +kernel) rfl guard_none (fun _ _ _ => trivial) ?_)
        ((apply WO_t (H := fun _ => True); (first | (apply g_fld; first | exact WT_field rfl rfl rfl)); exact rfl))
        (try (first | (refine WPY_leads (by decide +kernel) (Leads_frow (k := 0) (E := eI) (t := 7) [1] rfl rfl rfl rfl (hc := by decide) (hby := by decide)) ?_)))
        (refine WPY_one (H' := feet []) 11 (by decide +kernel) rfl guard_none (fun h => absurd h (by decide)) ?_)
        (first | (apply g_store; first | refine WO_store (k := 0) (l0 := []) rfl rfl rfl ?_))
        (try (first | (refine WPY_leads (by decide +kernel) (Leads_frow (k := 0) (E := eI) (t := 7) [1] rfl rfl rfl rfl (hc := by decide) (hby := by decide)) ?_)))
        refine WPY_done (by decide +kernel) ?_
        exact cut_here () trivial (Leads_env (by repeat (first | exact sub_nil | refine sub_cons rfl ?_)) (List.Sublist.refl _))
      ·
        (first | (apply g_callf; first | (refine WO_callG (.one 0 rfl .nil) Tryd.func42 rfl hrun rfl ?_; rintro _ _ ⟨rfl, rfl⟩)))
        (try (first | (refine WPY_leads (by decide +kernel) (Leads_frow (k := 0) (E := eI) (t := 7) [1] rfl rfl rfl rfl (hc := by decide) (hby := by decide)) ?_)))
        (refine WPY_two (H1 := fun _ => True) (H2 := fun _ => True) 3 7 (by decide +kernel) rfl guard_none (fun _ _ _ => trivial) rfl guard_none (fun _ _ _ => trivial) ?_ ?_)
        ·
          ((apply WO_t (H := fun _ => True); (first | (apply g_load; first | exact WT_load (k := 0) rfl rfl rfl rfl)); exact rfl))
          (try (first | (refine WPY_leads (by decide +kernel) (Leads_frow (k := 0) (E := eI) (t := 7) [1] rfl rfl rfl rfl (hc := by decide) (hby := by decide)) ?_)))
          (refine WPY_one (H' := fun _ => True) 7 (by decide +kernel) rfl guard_none (fun _ _ _ => trivial) ?_)
          ((apply WO_t (H := fun _ => True); (first | (apply g_call; first | exact WT_lent rfl rfl)); exact rfl))
          (try (first | (refine WPY_leads (by decide +kernel) (Leads_frow (k := 0) (E := eI) (t := 7) [1] rfl rfl rfl rfl (hc := by decide) (hby := by decide)) ?_)))
          (refine WPY_one (H' := fun _ => True) 8 (by decide +kernel) rfl guard_none (fun _ _ _ => trivial) ?_)
          ((apply WO_t (H := fun _ => True); (first | (apply g_bin; first | exact WT_add rfl rfl)); exact rfl))
          (try (first | (refine WPY_leads (by decide +kernel) (Leads_frow (k := 0) (E := eI) (t := 7) [1] rfl rfl rfl rfl (hc := by decide) (hby := by decide)) ?_)))
          (refine WPY_one (H' := fun _ => True) 9 (by decide +kernel) rfl guard_none (fun _ _ _ => trivial) ?_)
          ((apply WO_t (H := fun _ => True); (first | (apply g_nilck; first | exact WT_nilck rfl)); exact rfl))
          (try (first | (refine WPY_leads (by decide +kernel) (Leads_frow (k := 0) (E := eI) (t := 7) [1] rfl rfl rfl rfl (hc := by decide) (hby := by decide)) ?_)))
          (refine WPY_one (H' := fun _ => True) 10 (by decide +kernel) rfl guard_none (fun _ _ _ => trivial) ?_)
          ((apply WO_t (H := fun _ => True); (first | (apply g_fld; first | exact WT_field rfl rfl rfl)); exact rfl))
          (try (first | (refine WPY_leads (by decide +kernel) (Leads_frow (k := 0) (E := eI) (t := 7) [1] rfl rfl rfl rfl (hc := by decide) (hby := by decide)) ?_)))
          (refine WPY_one (H' := feet []) 11 (by decide +kernel) rfl guard_none (fun h => absurd h (by decide)) ?_)
          (first | (apply g_store; first | refine WO_store (k := 0) (l0 := []) rfl rfl rfl ?_))
          (try (first | (refine WPY_leads (by decide +kernel) (Leads_frow (k := 0) (E := eI) (t := 7) [1] rfl rfl rfl rfl (hc := by decide) (hby := by decide)) ?_)))
          refine WPY_done (by decide +kernel) ?_
          exact cut_here () trivial (Leads_env (by repeat (first | exact sub_nil | refine sub_cons rfl ?_)) (List.Sublist.refl _))
        ·
          ((apply WO_t (H := fun _ => True); (first | (apply g_call; first | exact WT_lent rfl rfl)); exact rfl))
          (try (first | (refine WPY_leads (by decide +kernel) (Leads_frow (k := 0) (E := eI) (t := 7) [1] rfl rfl rfl rfl (hc := by decide) (hby := by decide)) ?_)))
          (refine WPY_one (H' := fun _ => True) 3 (by decide +kernel) rfl guard_none (fun _ _ _ => trivial) ?_)
          ((apply WO_t (H := fun _ => True); (first | (apply g_load; first | exact WT_load (k := 0) rfl rfl rfl rfl)); exact rfl))
          (try (first | (refine WPY_leads (by decide +kernel) (Leads_frow (k := 0) (E := eI) (t := 7) [1] rfl rfl rfl rfl (hc := by decide) (hby := by decide)) ?_)))
          (refine WPY_one (H' := fun _ => True) 8 (by decide +kernel) rfl guard_none (fun _ _ _ => trivial) ?_)
          ((apply WO_t (H := fun _ => True); (first | (apply g_bin; first | exact WT_add rfl rfl)); exact rfl))
          (try (first | (refine WPY_leads (by decide +kernel) (Leads_frow (k := 0) (E := eI) (t := 7) [1] rfl rfl rfl rfl (hc := by decide) (hby := by decide)) ?_)))
          (refine WPY_one (H' := fun _ => True) 9 (by decide +kernel) rfl guard_none (fun _ _ _ => trivial) ?_)
          ((apply WO_t (H := fun _ => True); (first | (apply g_nilck; first | exact WT_nilck rfl)); exact rfl))
          (try (first | (refine WPY_leads (by decide +kernel) (Leads_frow (k := 0) (E := eI) (t := 7) [1] rfl rfl rfl rfl (hc := by decide) (hby := by decide)) ?_)))
          (refine WPY_one (H' := fun _ => True) 10 (by decide +kernel) rfl guard_none (fun _ _ _ => trivial) ?_)
          ((apply WO_t (H := fun _ => True); (first | (apply g_fld; first | exact WT_field rfl rfl rfl)); exact rfl))
          (try (first | (refine WPY_leads (by decide +kernel) (Leads_frow (k := 0) (E := eI) (t := 7) [1] rfl rfl rfl rfl (hc := by decide) (hby := by decide)) ?_)))
          (refine WPY_one (H' := feet []) 11 (by decide +kernel) rfl guard_none (fun h => absurd h (by decide)) ?_)
          (first | (apply g_store; first | refine WO_store (k := 0) (l0 := []) rfl rfl rfl ?_))
          (try (first | (refine WPY_leads (by decide +kernel) (Leads_frow (k := 0) (E := eI) (t := 7) [1] rfl rfl rfl rfl (hc := by decide) (hby := by decide)) ?_)))
          refine WPY_done (by decide +kernel) ?_
          exact cut_here () trivial (Leads_env (by repeat (first | exact sub_nil | refine sub_cons rfl ?_)) (List.Sublist.refl _))
  · simp only
    refine ⟨.inl rfl, ret0 (loc' := scanL b (i + t.length) s oa c acc) rfl ?_ ⟨t.length, oa, c, acc, rfl, h3, h4, by omega, by rw [h1]⟩⟩
    unfold scanL
    rw [Int.natCast_add]
    exact List.Sublist.refl _
end Go.Proofs.YtdpabdbeecbnmaaDoor

/- Frame: an interface against nil. No program in sight. -/
namespace Go.Fr
open Go.RowKit Go.Kx
theorem methods_of {P : Program} {t : TypeId} {ms : Array (String × TypeId)} (h : P.underlying t = some (.interface ms)) : P.underlying t = some (.interface (P.methodsAt t)) := by
  rw [h]; congr 2; unfold Program.methodsAt; rw [h]
section
variable {C : Cx} {S : (Nat → Prop) → World → World → Prop} {env : Env} {loc : List Ent} {dst : Option Tmp} {ty : TypeId} {pos : String} {af : Array Edge} {g : Option (Nat × Bool)}
theorem WT_ifnn {x : Operand} {t u : TypeId} {ms : Array (String × TypeId)} (hx : ev env x = some (ex .nilIface)) (ht : C.P.underlying t = some (.interface ms)) : WT C S ⟨dst, .binOp .neq t x (.const .nilIface) u, ty, pos, af, g⟩ (exB false) env loc := by
  constructor
  intro F a w hR
  have hv : a.eval x = .nilIface := ev_eval hR hx
  refine ⟨_, rfl, fun w' _ => ?_⟩
  have hn := run_neq_nil_nil (P := C.P) w' t (methods_of ht)
  have hc : a.eval (.const .nilIface) = .nilIface := rfl
  generalize a.eval = ρ at hv hc ⊢
  simp only [execOp, hv, hc, eqGuard_nil_constR]
  generalize binOp .neq t .nilIface .nilIface = s at hn ⊢
  simp [hn, go_sem]
theorem WT_ifnh {x : Operand} {t u T : TypeId} {v : Value} {ms : Array (String × TypeId)} (hx : ev env x = some (ex (.iface T v))) (ht : C.P.underlying t = some (.interface ms)) : WT C S ⟨dst, .binOp .neq t x (.const .nilIface) u, ty, pos, af, g⟩ (exB true) env loc := by
  constructor
  intro F a w hR
  have hv : a.eval x = .iface T v := ev_eval hR hx
  refine ⟨_, rfl, fun w' _ => ?_⟩
  have hn := run_neq_held_nil (P := C.P) w' t T v (methods_of ht)
  have hc : a.eval (.const .nilIface) = .nilIface := rfl
  have hg : eqGuard .neq t x (.const .nilIface) (.iface T v) .nilIface = pure () := by rfl
  generalize a.eval = ρ at hv hc ⊢
  simp only [execOp, hv, hc, hg]
  generalize binOp .neq t (.iface T v) .nilIface = s at hn ⊢
  simp [hn, go_sem]
end
end Go.Fr

/- Chapter 03: the scanner's number. -/
-- STRINGS
-- ROWS
-- PRUNEC
-- IFACE
-- IFNIL
namespace Go.Proofs.YtdpabdbeecbnmaaDoor
open Go Go.RowKit Go.Kx Go.Fr Go.Lx
set_option maxHeartbeats 4000000 in
set_option maxRecDepth 100000 in
theorem number3_any (b i : Nat) (s : List UInt8) (oa : Option Addr) (c : Nat) (acc : List TokD) (hi : i < s.length) (hmax : s.length ≤ 65536) (hacc : acc.length ≤ i) (h : digitB s[i] = true) : FnP Tryd.prog 27 [ex (.pointer (some ⟨b, 0, none⟩))] (scanL b i s oa c acc ++ [Lab]) (fun p loc => stepR b i s acc p loc) (stepP i s) := by
  obtain ⟨h1, h2, h3, h4⟩ := at_number hi h
  have hrun := run3_any b i s (ex (.slice oa acc.length c)) [3] (by omega) hmax
  rw [runF_digit] at hrun
  have htd : ∀ c ∈ (s.drop i).takeWhile digitB, digitB c = true := tw_all
  generalize (s.drop i).takeWhile digitB = t at h1 h2 h3 h4 hrun htd
  have hne : t ≠ [] := fun e => by rw [e] at h3; exact absurd h3 (by decide)
  have hnb := numB_iff htd hne
  have hadd := add3_any b i s t ⟨2, [], valF t, 0⟩ oa c acc (by omega) (by omega)
  have hvb : validB ⟨2, [], valF t, 0⟩ = decide (valF t ≤ 1099511627776) := by
    unfold validB; rw [if_neg (show ¬ (2 : Int) = 1 by decide), if_pos rfl, decide_eq_true rfl, Bool.true_and]
    exact decide_eq_decide.2 (show (0 ≤ ((valF t : Nat) : Int) ∧ ((valF t : Nat) : Int) ≤ 1099511627776) ↔ _ by omega)
  rw [hvb] at hadd
  unfold scanL at hadd
  unfold scanL
  refine FnP_enter Tryd.func27 rfl Tryd.ntmps27 rfl fun w0 F0 out => ?_
  by_cases hv : valF t < 9223372036854775808
  · have hato := atoi_ok_any t htd hne (by omega) hv
    have hito := itoa_any (valF t) (by omega)
    by_cases he : decF (valF t) = t
    · rw [decide_eq_true he, Bool.and_true] at hnb
      rw [he] at hito
      clear he
      (repeat' (first | (apply at_dst 7; refine WPL_frow (k := 0) (E := eI) (t := 6) [3] rfl rfl rfl rfl ?_ (hc := by decide) (hby := by decide)) | (apply at_dst 30; refine WPL_callP (.one 0 rfl (.one 0 rfl .nil)) Tryd.func43 rfl hadd rfl ?_ ?_) | refine WP_seq ?_ | refine WP_region ?_ | refine WPL_nil ?_ | (apply WPL_t; (first | exact WT_move rfl | exact WT_assign rfl | exact WT_pick (b := false) rfl (fun e => by cases e) (fun _ => rfl) | exact WT_extract rfl rfl | (apply g_bin; first | exact WT_ifnn rfl rfl) | (apply g_build; first | exact WT_build2 rfl rfl (by repeat (first | exact PartsO.nil | (apply PartsO.cons; exact rfl; exact inferInstance; exact rfl; exact rfl))))); exact rfl) | (apply WPL_gt; exact rfl; exact rfl; exact rfl; (first | exact WT_move rfl | (apply g_bin; first | exact WT_tne rfl rfl)); exact rfl) | refine WP_skip ?_ | (apply WPL_op0; exact rfl; first | (apply g_callf; first | (refine WO_callG (.one 0 rfl .nil) Tryd.func42 rfl hrun rfl ?_; rintro _ _ ⟨rfl, rfl⟩) | (refine WO_call Tryd.func44 rfl hato rfl ?_; rintro _ _ ⟨rfl, rfl⟩)) | (apply g_bslice; (first | refine WO_bslice1 rfl rfl ?_); intro _)) | (apply WPL_on0; exact rfl; exact rfl; exact rfl; exact rfl; (apply g_callf; first | (refine WO_callG (.dup 2 rfl rfl .nil) Tryd.func36 rfl hito rfl ?_; rintro _ _ ⟨rfl, rfl⟩))) | (refine WP_cond rfl (fun hb => ?_) (fun hb => ?_) <;> (repeat (first | replace hb := dec_t hb | replace hb := dec_f hb | replace hb := not_t hb | replace hb := not_f hb)) <;> (try (exfalso; first | contradiction)))))
      all_goals (try (exfalso; first | contradiction | omega))
      · rintro p loc ⟨hvv, oa2, c2, rfl⟩
        (repeat' (first | refine WPL_nil ?_))
        exact ⟨.inl rfl, ret0 (loc' := scanL b (i + t.length) s oa2 c2 (acc ++ [⟨2, [], valF t, i⟩])) rfl (by exact .cons_cons _ (.cons_cons _ (List.nil_sublist _))) ⟨t.length, oa2, c2, _, rfl, h3, h4, by simp, by rw [h1 (hnb.trans hvv), map_app]⟩⟩
      · rintro ch loc ⟨hvv, rfl, rfl⟩
        refine panic_here (loc' := []) (List.nil_sublist _) ?_
        exact ⟨h2 (hnb.trans hvv), rfl, rfl⟩
    · rw [decide_eq_false he, Bool.and_false] at hnb
      (repeat' (first | (apply at_dst 7; refine WPL_frow (k := 0) (E := eI) (t := 6) [3] rfl rfl rfl rfl ?_ (hc := by decide) (hby := by decide)) | (refine WPL_panic rfl ?_) | refine WP_seq ?_ | refine WP_region ?_ | refine WPL_nil ?_ | (apply WPL_t; (first | exact WT_move rfl | exact WT_assign rfl | exact WT_pick (b := false) rfl (fun e => by cases e) (fun _ => rfl) | exact WT_extract rfl rfl | (apply g_load; first | exact WT_load (k := 0) rfl rfl rfl rfl) | (apply g_fld; first | exact WT_field rfl rfl rfl) | (apply g_bin; first | exact WT_ifnn rfl rfl) | (apply g_nilck; first | exact WT_nilck rfl) | (apply g_mkif; first | exact WT_mkif rfl rfl)); exact rfl) | (apply WPL_gt; exact rfl; exact rfl; exact rfl; (first | exact WT_move rfl | (apply g_bin; first | exact WT_tne rfl rfl)); exact rfl) | (apply WPL_op0; exact rfl; first | (apply g_callf; first | (refine WO_callG (.one 0 rfl .nil) Tryd.func42 rfl hrun rfl ?_; rintro _ _ ⟨rfl, rfl⟩) | (refine WO_call Tryd.func44 rfl hato rfl ?_; rintro _ _ ⟨rfl, rfl⟩)) | (apply g_bslice; (first | refine WO_bslice1 rfl rfl ?_); intro _)) | (apply WPL_on0; exact rfl; exact rfl; exact rfl; exact rfl; (apply g_callf; first | (refine WO_callG (.dup 2 rfl rfl .nil) Tryd.func36 rfl hito rfl ?_; rintro _ _ ⟨rfl, rfl⟩))) | (refine WP_cond rfl (fun hb => ?_) (fun hb => ?_) <;> (repeat (first | replace hb := dec_t hb | replace hb := dec_f hb | replace hb := not_t hb | replace hb := not_f hb)) <;> (try (exfalso; first | contradiction)))))
      all_goals (try (exfalso; first | contradiction | omega))
      all_goals exact panic_then (panic_here (loc' := []) (List.nil_sublist _) ⟨h2 hnb, And.intro rfl rfl⟩)
  · have hato := atoi_range_any t htd hne (by omega) hv
    rw [decide_eq_false (show ¬ valF t ≤ 1099511627776 by omega), Bool.false_and] at hnb
    (repeat' (first | (apply at_dst 7; refine WPL_frow (k := 0) (E := eI) (t := 6) [3] rfl rfl rfl rfl ?_ (hc := by decide) (hby := by decide)) | (refine WPL_panic rfl ?_) | refine WP_seq ?_ | refine WP_region ?_ | refine WPL_nil ?_ | (apply WPL_t; (first | exact WT_move rfl | exact WT_assign rfl | exact WT_pick (b := true) rfl (fun _ => rfl) (fun e => by cases e) | exact WT_extract rfl rfl | (apply g_load; first | exact WT_load (k := 0) rfl rfl rfl rfl) | (apply g_fld; first | exact WT_field rfl rfl rfl) | (apply g_bin; first | exact WT_ifnh rfl rfl) | (apply g_nilck; first | exact WT_nilck rfl) | (apply g_mkif; first | exact WT_mkif rfl rfl)); exact rfl) | (refine WPL_off rfl rfl rfl rfl rfl ?_) | refine WP_cond_t rfl ?_ | (apply WPL_op0; exact rfl; first | (apply g_callf; first | (refine WO_callG (.one 0 rfl .nil) Tryd.func42 rfl hrun rfl ?_; rintro _ _ ⟨rfl, rfl⟩) | (refine WO_callG (.dup 2 rfl rfl .nil) Tryd.func44 rfl hato rfl ?_; rintro _ _ ⟨⟨nn, NN, rfl⟩, rfl⟩)) | (apply g_bslice; (first | refine WO_bslice1 rfl rfl ?_); intro _))))
    all_goals (try (exfalso; first | contradiction | omega))
    all_goals exact panic_then (panic_here (loc' := []) (List.nil_sublist _) ⟨h2 hnb, And.intro rfl rfl⟩)
end Go.Proofs.YtdpabdbeecbnmaaDoor

/- Chapter 03: the scanner's sign. -/
-- STRINGS
-- ROWS
-- PRUNEC
-- IFACE
-- IFNIL
namespace Go.Lx
theorem index_line (s : List UInt8) : Lib.indexByte s 10 = if (s.takeWhile lineB).length = s.length then -1 else ((s.takeWhile lineB).length : Int) := by
  induction s with
  | nil => rfl
  | cons c r ih =>
    rw [Lib.indexByte, List.takeWhile_cons]
    by_cases h : c = 10
    · rw [if_pos (by simp [h]), show lineB c = false by rw [h]; decide]; simp
    · rw [if_neg (by simpa using h), line_ne h, if_pos rfl, ih]
      have := tw_len (p := lineB) r
      by_cases h2 : (r.takeWhile lineB).length = r.length
      · rw [if_pos h2, if_pos (by decide), if_pos (by simp [h2])]
      · rw [if_neg h2, if_neg (by first | (simp; done) | (simp; omega)), if_neg (by simpa using h2), List.length_cons]; omega
end Go.Lx
namespace Go.Proofs.YtdpabdbeecbnmaaDoor
open Go Go.RowKit Go.Kx Go.Fr Go.Lx
theorem prefix_slashes {s : List UInt8} {i : Nat} (hi : i < s.length) : List.isPrefixOf [47, 47] (s.drop i) = decide (s[i] = 47 ∧ (s.drop (i + 1)).head? = some 47) := by
  rw [List.drop_eq_getElem_cons hi]
  cases hd : s.drop (i + 1) with
  | nil => simp [List.isPrefixOf]
  | cons d r =>
    simp only [List.isPrefixOf, List.head?_cons, Bool.and_true, Option.some.injEq]
    rw [Bool.eq_iff_iff]
    simp only [Bool.and_eq_true, beq_iff_eq, decide_eq_true_iff]
    exact ⟨fun ⟨a, b⟩ => ⟨a.symm, b.symm⟩, fun ⟨a, b⟩ => ⟨a.symm, b.symm⟩⟩
theorem one_byte {s : List UInt8} {i : Nat} (hi : i < s.length) : (s.take (i + 1)).drop i = [s[i]] := by
  rw [List.take_succ_eq_append_getElem hi, List.drop_append, List.drop_eq_nil_of_le (by rw [List.length_take]; omega), List.length_take, Nat.min_eq_left (by omega), Nat.sub_self]
  rfl
set_option maxHeartbeats 4000000 in
set_option maxRecDepth 100000 in
theorem sign3_any (b i : Nat) (s : List UInt8) (oa : Option Addr) (c : Nat) (acc : List TokD) (hi : i < s.length) (hmax : s.length ≤ 65536) (hacc : acc.length ≤ i) (h : signB s[i] = true) : FnP Tryd.prog 28 [ex (.pointer (some ⟨b, 0, none⟩))] (scanL b i s oa c acc) (stepR b i s acc) (stepP i s) := by
  have hpre := hasPrefix_any (s.drop i) [47, 47]
  rw [prefix_slashes hi] at hpre
  unfold scanL
  by_cases hc : s[i] = 47 ∧ (s.drop (i + 1)).head? = some 47
  · rw [decide_eq_true hc] at hpre
    obtain ⟨h1, h3, h4⟩ := at_comment hi hc.1 hc.2
    have hix := indexByteS_any (s.drop i) 10
    rw [index_line, List.length_drop] at hix
    clear hc
    generalize ((s.drop i).takeWhile lineB).length = L at h1 h3 h4 hix
    refine FnC.toP _ ?_
    refine FnC_enter Tryd.func28 rfl Tryd.ntmps28 rfl fun w0 F0 out => ?_
    (repeat' (first | (apply at_region 0; refine Stop.out ?_) | refine WP_seq ?_))
    refine ⟨?_⟩
    (refine WP_draw ([row b 49 3 [exT s, exI .i64 (i : Int), ex (.slice oa acc.length c)]]) 10 rfl ?_)
    all_goals ((apply WPY_pure 0 rfl (by decide +kernel) rfl (by repeat (first | exact np_ret)) guard_none; (first | exact WT_move rfl); exact rfl))
    all_goals ((apply WPY_pure 1 rfl (by decide +kernel) rfl (by repeat (first | exact np_ret)) guard_none; (first | (apply g_nilck; first | exact WT_nilck rfl)); exact rfl))
    all_goals ((apply WPY_pure 2 rfl (by decide +kernel) rfl (by repeat (first | exact np_ret)) guard_none; (first | (apply g_fld; first | exact WT_field rfl rfl rfl)); exact rfl))
    all_goals ((apply WPY_take 3 rfl (by decide +kernel) rfl (by decide +kernel) (by repeat (first | exact np_ret)) guard_none; (first | (apply g_load; first | exact WT_load (k := 0) rfl rfl rfl rfl)); exact rfl))
    all_goals ((apply WPY_pure 4 rfl (by decide +kernel) rfl (by repeat (first | exact np_ret)) guard_none; (first | exact WT_move rfl); exact rfl))
    all_goals ((apply WPY_pure 5 rfl (by decide +kernel) rfl (by repeat (first | exact np_ret)) guard_none; (first | (apply g_nilck; first | exact WT_nilck rfl)); exact rfl))
    all_goals ((apply WPY_pure 6 rfl (by decide +kernel) rfl (by repeat (first | exact np_ret)) guard_none; (first | (apply g_fld; first | exact WT_field rfl rfl rfl)); exact rfl))
    all_goals ((apply WPY_take 7 rfl (by decide +kernel) rfl (by decide +kernel) (by repeat (first | exact np_ret)) guard_none; (first | (apply g_load; first | exact WT_load (k := 0) rfl rfl rfl rfl)); exact rfl))
    all_goals ((apply WPY_pure 8 rfl (by decide +kernel) rfl (by repeat (first | exact np_ret)) guard_none; (first | (apply g_slice; first | exact WT_ssll rfl rfl rfl)); exact rfl))
    all_goals (first | (apply WPY_one 9; exact (by decide +kernel); exact rfl; exact guard_none; exact (fun _ _ h => h); first | (apply g_callf; first | (refine WO_call Tryd.func45 rfl hpre rfl ?_; rintro _ _ ⟨rfl, rfl⟩))))
    all_goals (refine WPY_done (by decide +kernel) ?_)
    by_cases hL : L = s.length - i
    · rw [if_pos hL] at hix
      (repeat' (first | (apply at_region 1; refine Stop.out ?_) | refine WP_seq ?_ | refine WP_cond_t rfl ?_))
      refine ⟨?_⟩
      (refine WP_draw ([row b 49 3 [exT s, exI .i64 (i : Int), ex (.slice oa acc.length c)]]) 11 rfl ?_)
      all_goals ((apply WPY_pure 0 rfl (by decide +kernel) rfl (by repeat (first | exact np_ret)) guard_none; (first | exact WT_move rfl); exact rfl))
      all_goals ((apply WPY_pure 1 rfl (by decide +kernel) rfl (by repeat (first | exact np_ret)) guard_none; (first | (apply g_nilck; first | exact WT_nilck rfl)); exact rfl))
      all_goals ((apply WPY_pure 2 rfl (by decide +kernel) rfl (by repeat (first | exact np_ret)) guard_none; (first | (apply g_fld; first | exact WT_field rfl rfl rfl)); exact rfl))
      all_goals ((apply WPY_take 3 rfl (by decide +kernel) rfl (by decide +kernel) (by repeat (first | exact np_ret)) guard_none; (first | (apply g_load; first | exact WT_load (k := 0) rfl rfl rfl rfl)); exact rfl))
      all_goals ((apply WPY_pure 4 rfl (by decide +kernel) rfl (by repeat (first | exact np_ret)) guard_none; (first | exact WT_move rfl); exact rfl))
      all_goals ((apply WPY_pure 5 rfl (by decide +kernel) rfl (by repeat (first | exact np_ret)) guard_none; (first | (apply g_nilck; first | exact WT_nilck rfl)); exact rfl))
      all_goals ((apply WPY_pure 6 rfl (by decide +kernel) rfl (by repeat (first | exact np_ret)) guard_none; (first | (apply g_fld; first | exact WT_field rfl rfl rfl)); exact rfl))
      all_goals ((apply WPY_take 7 rfl (by decide +kernel) rfl (by decide +kernel) (by repeat (first | exact np_ret)) guard_none; (first | (apply g_load; first | exact WT_load (k := 0) rfl rfl rfl rfl)); exact rfl))
      all_goals ((apply WPY_pure 8 rfl (by decide +kernel) rfl (by repeat (first | exact np_ret)) guard_none; (first | (apply g_slice; first | exact WT_ssll rfl rfl rfl)); exact rfl))
      all_goals (first | (apply WPY_one 9; exact (by decide +kernel); exact rfl; exact guard_none; exact (fun _ _ h => h); first | (apply g_callf; first | (refine WO_call Tryd.func46 rfl hix rfl ?_; rintro _ _ ⟨rfl, rfl⟩))))
      all_goals ((apply WPY_pure 10 rfl (by decide +kernel) rfl (by repeat (first | exact np_ret)) guard_none; (first | exact WT_assign rfl); exact rfl))
      all_goals (refine WPY_done (by decide +kernel) ?_)
      (repeat' (first | refine WP_seq ?_ | refine WP_region ?_ | refine WPL_nil ?_ | (apply WPL_t; (first | exact WT_move rfl | (apply g_load; first | exact WT_load (k := 0) rfl rfl rfl rfl) | (apply g_fld; first | exact WT_field rfl rfl rfl) | (apply g_bin; first | exact WT_geq rfl rfl) | (apply g_call; first | exact WT_lent rfl rfl) | (apply g_nilck; first | exact WT_nilck rfl)); exact rfl) | refine WP_ret ?_ | refine WP_cond_f rfl ?_ | (apply WPL_op0; exact rfl; first | (apply g_store; first | refine WO_store (k := 0) (l0 := []) rfl rfl rfl ?_))))
      all_goals (try (exfalso; first | contradiction | omega))
      refine ⟨.inr rfl, ret0 (loc' := [row b 49 3 [exT s, exI .i64 (s.length : Int), ex (.slice oa acc.length c)], vec (.slice oa acc.length c) 35 4 acc.length (acc.flatMap tokV)]) rfl (by exact List.Sublist.refl _) ⟨L, oa, c, acc, ?_, h3, h4, by omega, by rw [h1]⟩⟩
      rw [show i + L = s.length by omega]; rfl
    · rw [if_neg hL] at hix
      (repeat' (first | (apply at_region 1; refine Stop.out ?_) | refine WP_seq ?_ | refine WP_cond_t rfl ?_))
      refine ⟨?_⟩
      (refine WP_draw ([row b 49 3 [exT s, exI .i64 (i : Int), ex (.slice oa acc.length c)]]) 11 rfl ?_)
      all_goals ((apply WPY_pure 0 rfl (by decide +kernel) rfl (by repeat (first | exact np_ret)) guard_none; (first | exact WT_move rfl); exact rfl))
      all_goals ((apply WPY_pure 1 rfl (by decide +kernel) rfl (by repeat (first | exact np_ret)) guard_none; (first | (apply g_nilck; first | exact WT_nilck rfl)); exact rfl))
      all_goals ((apply WPY_pure 2 rfl (by decide +kernel) rfl (by repeat (first | exact np_ret)) guard_none; (first | (apply g_fld; first | exact WT_field rfl rfl rfl)); exact rfl))
      all_goals ((apply WPY_take 3 rfl (by decide +kernel) rfl (by decide +kernel) (by repeat (first | exact np_ret)) guard_none; (first | (apply g_load; first | exact WT_load (k := 0) rfl rfl rfl rfl)); exact rfl))
      all_goals ((apply WPY_pure 4 rfl (by decide +kernel) rfl (by repeat (first | exact np_ret)) guard_none; (first | exact WT_move rfl); exact rfl))
      all_goals ((apply WPY_pure 5 rfl (by decide +kernel) rfl (by repeat (first | exact np_ret)) guard_none; (first | (apply g_nilck; first | exact WT_nilck rfl)); exact rfl))
      all_goals ((apply WPY_pure 6 rfl (by decide +kernel) rfl (by repeat (first | exact np_ret)) guard_none; (first | (apply g_fld; first | exact WT_field rfl rfl rfl)); exact rfl))
      all_goals ((apply WPY_take 7 rfl (by decide +kernel) rfl (by decide +kernel) (by repeat (first | exact np_ret)) guard_none; (first | (apply g_load; first | exact WT_load (k := 0) rfl rfl rfl rfl)); exact rfl))
      all_goals ((apply WPY_pure 8 rfl (by decide +kernel) rfl (by repeat (first | exact np_ret)) guard_none; (first | (apply g_slice; first | exact WT_ssll rfl rfl rfl)); exact rfl))
      all_goals (first | (apply WPY_one 9; exact (by decide +kernel); exact rfl; exact guard_none; exact (fun _ _ h => h); first | (apply g_callf; first | (refine WO_call Tryd.func46 rfl hix rfl ?_; rintro _ _ ⟨rfl, rfl⟩))))
      all_goals ((apply WPY_pure 10 rfl (by decide +kernel) rfl (by repeat (first | exact np_ret)) guard_none; (first | exact WT_assign rfl); exact rfl))
      all_goals (refine WPY_done (by decide +kernel) ?_)
      (repeat' (first | refine WP_seq ?_ | refine WP_region ?_ | refine WPL_nil ?_ | (apply WPL_t; (first | exact WT_move rfl | (apply g_load; first | exact WT_load (k := 0) rfl rfl rfl rfl) | (apply g_fld; first | exact WT_field rfl rfl rfl) | (apply g_bin; first | exact WT_geq rfl rfl | exact WT_add rfl rfl) | (apply g_nilck; first | exact WT_nilck rfl)); exact rfl) | refine WP_ret ?_ | refine WP_cond_t rfl ?_ | (apply WPL_op0; exact rfl; first | (apply g_store; first | refine WO_store (k := 0) (l0 := []) rfl rfl rfl ?_))))
      all_goals (try (exfalso; first | contradiction | omega))
      refine ⟨.inr rfl, ret0 (loc' := [row b 49 3 [exT s, exI .i64 ((i : Int) + (L : Int)), ex (.slice oa acc.length c)], vec (.slice oa acc.length c) 35 4 acc.length (acc.flatMap tokV)]) rfl (by exact List.Sublist.refl _) ⟨L, oa, c, acc, ?_, h3, h4, by omega, by rw [h1]⟩⟩
      rw [← Int.natCast_add]; rfl
  · rw [decide_eq_false hc] at hpre
    have h1 := at_sign hi h fun e e2 => hc ⟨e, e2⟩
    clear hc
    have hadd := add3_any b i s [s[i]] ⟨3, [s[i]], 0, 0⟩ oa c acc (by simp; omega) (by omega)
    have hvb : validB ⟨3, [s[i]], 0, 0⟩ = true := by
      unfold validB; rw [if_neg (show ¬ (3 : Int) = 1 by decide), if_neg (show ¬ (3 : Int) = 2 by decide), if_pos rfl]; simp [h]
    rw [hvb] at hadd
    rw [← one_byte hi] at hadd
    unfold scanL at hadd
    refine FnP_enter Tryd.func28 rfl Tryd.ntmps28 rfl fun w0 F0 out => ?_
    (repeat' (first | (apply at_region 0; refine Stop.out ?_) | refine WP_seq ?_))
    refine ⟨WP_norm ?_⟩
    (refine WP_draw ([row b 49 3 [exT s, exI .i64 (i : Int), ex (.slice oa acc.length c)]]) 10 rfl ?_)
    all_goals ((apply WPY_pure 0 rfl (by decide +kernel) rfl (by repeat (first | exact np_norm)) guard_none; (first | exact WT_move rfl); exact rfl))
    all_goals ((apply WPY_pure 1 rfl (by decide +kernel) rfl (by repeat (first | exact np_norm)) guard_none; (first | (apply g_nilck; first | exact WT_nilck rfl)); exact rfl))
    all_goals ((apply WPY_pure 2 rfl (by decide +kernel) rfl (by repeat (first | exact np_norm)) guard_none; (first | (apply g_fld; first | exact WT_field rfl rfl rfl)); exact rfl))
    all_goals ((apply WPY_take 3 rfl (by decide +kernel) rfl (by decide +kernel) (by repeat (first | exact np_norm)) guard_none; (first | (apply g_load; first | exact WT_load (k := 0) rfl rfl rfl rfl)); exact rfl))
    all_goals ((apply WPY_pure 4 rfl (by decide +kernel) rfl (by repeat (first | exact np_norm)) guard_none; (first | exact WT_move rfl); exact rfl))
    all_goals ((apply WPY_pure 5 rfl (by decide +kernel) rfl (by repeat (first | exact np_norm)) guard_none; (first | (apply g_nilck; first | exact WT_nilck rfl)); exact rfl))
    all_goals ((apply WPY_pure 6 rfl (by decide +kernel) rfl (by repeat (first | exact np_norm)) guard_none; (first | (apply g_fld; first | exact WT_field rfl rfl rfl)); exact rfl))
    all_goals ((apply WPY_take 7 rfl (by decide +kernel) rfl (by decide +kernel) (by repeat (first | exact np_norm)) guard_none; (first | (apply g_load; first | exact WT_load (k := 0) rfl rfl rfl rfl)); exact rfl))
    all_goals ((apply WPY_pure 8 rfl (by decide +kernel) rfl (by repeat (first | exact np_norm)) guard_none; (first | (apply g_slice; first | exact WT_ssll rfl rfl rfl)); exact rfl))
    all_goals (first | (apply WPY_one 9; exact (by decide +kernel); exact rfl; exact guard_none; exact (fun _ _ h => h); first | (apply g_callf; first | (refine WO_call Tryd.func45 rfl hpre rfl ?_; rintro _ _ ⟨rfl, rfl⟩))))
    all_goals (refine WPY_done (by decide +kernel) ?_)
    refine ⟨rfl, ?_⟩
    (repeat' (first | (apply at_region 5; refine Stop.out ?_) | refine WP_seq ?_ | refine WP_skip ?_ | refine WP_cond_f rfl ?_))
    refine ⟨WP_norm ?_⟩
    (refine WP_draw ([row b 49 3 [exT s, exI .i64 (i : Int), ex (.slice oa acc.length c)]]) 15 rfl ?_)
    all_goals ((apply WPY_pure 0 rfl (by decide +kernel) rfl (by repeat (first | exact np_norm)) guard_none; (first | exact WT_move rfl); exact rfl))
    all_goals ((apply WPY_pure 1 rfl (by decide +kernel) rfl (by repeat (first | exact np_norm)) guard_none; (first | (apply g_nilck; first | exact WT_nilck rfl)); exact rfl))
    all_goals ((apply WPY_pure 2 rfl (by decide +kernel) rfl (by repeat (first | exact np_norm)) guard_none; (first | (apply g_fld; first | exact WT_field rfl rfl rfl)); exact rfl))
    all_goals ((apply WPY_take 3 rfl (by decide +kernel) rfl (by decide +kernel) (by repeat (first | exact np_norm)) guard_none; (first | (apply g_load; first | exact WT_load (k := 0) rfl rfl rfl rfl)); exact rfl))
    all_goals ((apply WPY_pure 4 rfl (by decide +kernel) rfl (by repeat (first | exact np_norm)) guard_none; (first | exact WT_move rfl); exact rfl))
    all_goals ((apply WPY_pure 5 rfl (by decide +kernel) rfl (by repeat (first | exact np_norm)) guard_none; (first | (apply g_nilck; first | exact WT_nilck rfl)); exact rfl))
    all_goals ((apply WPY_pure 6 rfl (by decide +kernel) rfl (by repeat (first | exact np_norm)) guard_none; (first | (apply g_fld; first | exact WT_field rfl rfl rfl)); exact rfl))
    all_goals ((apply WPY_take 7 rfl (by decide +kernel) rfl (by decide +kernel) (by repeat (first | exact np_norm)) guard_none; (first | (apply g_load; first | exact WT_load (k := 0) rfl rfl rfl rfl)); exact rfl))
    all_goals ((apply WPY_pure 8 rfl (by decide +kernel) rfl (by repeat (first | exact np_norm)) guard_none; (first | exact WT_move rfl); exact rfl))
    all_goals ((apply WPY_pure 9 rfl (by decide +kernel) rfl (by repeat (first | exact np_norm)) guard_none; (first | (apply g_nilck; first | exact WT_nilck rfl)); exact rfl))
    all_goals ((apply WPY_pure 10 rfl (by decide +kernel) rfl (by repeat (first | exact np_norm)) guard_none; (first | (apply g_fld; first | exact WT_field rfl rfl rfl)); exact rfl))
    all_goals ((apply WPY_take 11 rfl (by decide +kernel) rfl (by decide +kernel) (by repeat (first | exact np_norm)) guard_none; (first | (apply g_load; first | exact WT_load (k := 0) rfl rfl rfl rfl)); exact rfl))
    all_goals ((apply WPY_pure 12 rfl (by decide +kernel) rfl (by repeat (first | exact np_norm)) guard_none; (first | (apply g_bin; first | exact WT_add rfl rfl)); exact rfl))
    all_goals ((apply WPY_pure 13 rfl (by decide +kernel) rfl (by repeat (first | exact np_norm)) guard_none; (first | (apply g_slice; first | exact WT_sslb rfl rfl rfl rfl)); exact rfl))
    all_goals ((apply WPY_pure 14 rfl (by decide +kernel) rfl (by repeat (first | exact np_norm)) guard_none; (first | exact WT_assign rfl); exact rfl))
    all_goals (refine WPY_done (by decide +kernel) ?_)
    refine ⟨rfl, ?_⟩
    (repeat' (first | (apply at_dst 60; refine WPL_callP (.one 0 rfl (.one 0 rfl .nil)) Tryd.func43 rfl hadd rfl ?_ ?_) | refine WP_region ?_ | (apply WPL_t; (first | exact WT_move rfl | (apply g_build; first | exact WT_build2 rfl rfl (by repeat (first | exact PartsO.nil | (apply PartsO.cons; exact rfl; exact inferInstance; exact rfl; exact rfl))))); exact rfl)))
    · rintro p loc ⟨-, oa2, c2, rfl⟩
      (repeat' (first | refine WPL_nil ?_))
      exact ⟨.inl rfl, ret0 (loc' := scanL b (i + 1) s oa2 c2 (acc ++ [⟨3, [s[i]], 0, i⟩])) rfl (by rw [one_byte hi]; exact List.Sublist.refl _) ⟨1, oa2, c2, _, rfl, Nat.le_refl _, by omega, by simp, by rw [h1, map_app]⟩⟩
    · rintro ch loc ⟨hvv, -⟩
      cases hvv
end Go.Proofs.YtdpabdbeecbnmaaDoor

/- Frame: a deferred closure that begins with recover. No program in sight. -/
namespace Go.Fr
open Go.RowKit Go.Kx
/-- A function that a frame defers, and whose first text is 'r := recover()'. -/
theorem FnD_rec {P : Program} {f : FuncId} {fn : Func} {r d d2 N : Nat} {ty1 ty2 : TypeId} {pos1 pos2 : String} {af1 af2 : Array Edge} {ats : Array TypeId} {rest : Code} {args : List SP} {inn : List Ent} {u u2 : FrameMode} {v : Value} {R : List Ent → Prop}
    (hf : P.funcs[f]? = some fn) (hb : fn.body = some (.seq (.region r #[⟨some d, .call ⟨.builtin .recover, #[], ats⟩, ty1, pos1, af1, none⟩, ⟨some d2, .assign (.tmp d), ty2, pos2, af2, none⟩] false) rest)) (hN : fn.ntmps = N)
    (hrec : ∀ (c0 : Frame) (cs : List Frame), c0.mode = u → recoverD (c0 :: cs) = some (v, { c0 with mode := u2 } :: cs) ∨ (recoverD (c0 :: cs) = none ∧ v = .nilIface ∧ { c0 with mode := u2 } = c0))
    (h : ∀ w0 F0 out, WP ⟨P, w0, F0, footX inn, out, N, []⟩ rest (retP ⟨P, w0, F0, footX inn, out, N, []⟩ fn (fun _ loc => R loc)) ((d2, ex v) :: (d, ex v) :: argEnv 0 args) inn)
    (hle : Nat.ble args.length N = true := by rfl) (hd : Nat.blt d N = true := by rfl) (hd2 : Nat.blt d2 N = true := by rfl) : FnD P f args inn u (fun u' loc => u' = u2 ∧ R loc) := by
  intro F w vals out hG hA
  have hle' : args.length ≤ N := Nat.le_of_ble_eq_true hle
  have hsz : vals.length = args.length := hA.len
  have hst : ∀ (d : Nat) (hd : Nat.blt d N = true) {env : Env} {a : Act} (v : Value), a.tmps.size = N → Rel ⟨P, w, F, footX inn, out, N, []⟩ F env inn a w → Rel ⟨P, w, F, footX inn, out, N, []⟩ F ((d, ex v) :: env) inn (a.put (some d) v) w := by
    intro d hd env a v hs hR
    exact hR.put hd rfl
  refine callsD_of_wpS hf hb fun c0 cs hu => ?_
  have hR0 : Rel ⟨P, w, F, footX inn, out, N, []⟩ F (argEnv 0 args) inn { tmps := vals.toArray ++ Array.replicate (fn.ntmps - vals.toArray.size) undef, defers := [] } w := by
    refine ⟨hG, ?_, ?_, rfl, Ch.refl _ _, fun e he b hb => .inr ⟨e, he, hb⟩, fun b hb _ => hb⟩
    · intro t p hp
      obtain ⟨j, rfl, hj⟩ := look_argEnv hp
      obtain ⟨v, hv, hr⟩ := hA.at_ j p hj
      have hlt : j < vals.length := (List.getElem?_eq_some_iff.1 hv).1
      have hx : (vals.toArray ++ Array.replicate (fn.ntmps - vals.toArray.size) undef).getD (0 + j) undef = v := by
        rw [Nat.zero_add, Array.getD_eq_getD_getElem?, Array.getElem?_append_left (by simpa using hlt)]
        simp [hv]
      rw [hx]; exact hr
    · rw [hN]; simp; omega
  generalize ({ tmps := vals.toArray ++ Array.replicate (fn.ntmps - vals.toArray.size) undef, defers := [] } : Act) = a0 at hR0 ⊢
  have hR1 := hst d hd v hR0.size hR0
  have hR2 := hst d2 hd2 v hR1.size hR1
  have hrun : ∀ (a : Act) (w : World), (execOp a.eval ⟨some d, .call ⟨.builtin .recover, #[], ats⟩, ty1, pos1, af1, none⟩).run P w = .ok .recover w := by
    intro a w
    generalize a.eval = ρ
    simp [execOp, go_sem]
  have hrun2 : ∀ (a : Act) (w : World), (execOp a.eval ⟨some d2, .assign (.tmp d), ty2, pos2, af2, none⟩).run P w = .ok (.value (a.eval (.tmp d))) w := by
    intro a w
    generalize a.eval = ρ
    simp [execOp, go_sem]
  have hw1 : ∀ y, Region.wanted ⟨some d, .call ⟨.builtin .recover, #[], ats⟩, ty1, pos1, af1, none⟩ y = true := fun y => rfl
  have hw2 : ∀ y, Region.wanted ⟨some d2, .assign (.tmp d), ty2, pos2, af2, none⟩ y = true := fun y => rfl
  have hv : (a0.put (some d) v).eval (.tmp d) = v := ev_eval hR1 (show ev _ (.tmp d) = some (ex v) by simp [ev, look])
  have hk : rest.wpS P (bodyPostS P fn c0 cs (fun e u' w' => ∃ v F' loc', e = .returned v ∧ (u' = u2 ∧ R loc') ∧ Good F' (loc' ++ out) w' ∧ Ch (fun b => ∃ e ∈ inn, b ∈ e.foot) w w' ∧ (∀ b, F b → b < w.heap.size → F' b) ∧
      ∀ e ∈ loc', ∀ b ∈ e.foot, w.heap.size ≤ b ∨ ∃ e ∈ inn, b ∈ e.foot)) ((a0.put (some d) v).put (some d2) v) ({ c0 with mode := u2 } :: cs) w := by
    refine wpS_of_wp (Code.wp_mono ?_ ((h w F out).out F _ w hR2))
    rintro e a' w' ⟨F', env', loc', hR', hq⟩
    have key : ∀ e, retP ⟨P, w, F, footX inn, out, N, []⟩ fn (fun _ loc => R loc) e env' loc' → a'.defers = [] ∧ ∃ u', ({ c0 with mode := u2 } : Frame) :: cs = { c0 with mode := u' } :: cs ∧ ∃ v, (results fn a'.tmps).run P w' = .ok v w' ∧ (∃ v2 F' loc', Ending.returned v = .returned v2 ∧ (u' = u2 ∧ R loc') ∧ Good F' (loc' ++ out) w' ∧ Ch (fun b => ∃ e ∈ inn, b ∈ e.foot) w w' ∧ (∀ b, F b → b < w.heap.size → F' b) ∧
      ∀ e ∈ loc', ∀ b ∈ e.foot, w.heap.size ≤ b ∨ ∃ e ∈ inn, b ∈ e.foot) := by
      intro e hq
      obtain ⟨F2, v2, p2, loc2, g1, g2, g3, g4, g5, g6⟩ := hq.2 F' a' w' hR'
      exact ⟨hR'.defers, u2, rfl, v2, g1, v2, F2, loc2, rfl, ⟨rfl, g2⟩, g4, hR'.ch, g5, g6⟩
    rcases hq.1 with rfl | rfl
    · exact key _ hq
    · exact key _ hq
  refine wpS_seq (wpS_region ?_)
  show wpOpsS P _ _ [0, 1] a0 (c0 :: cs) w
  have hlast : ∀ cs', wpOpsS P #[⟨some d, .call ⟨.builtin .recover, #[], ats⟩, ty1, pos1, af1, none⟩, ⟨some d2, .assign (.tmp d), ty2, pos2, af2, none⟩] (Exit.thenS (rest.wpS P (bodyPostS P fn c0 cs (fun e u' w' => ∃ v F' loc', e = .returned v ∧ (u' = u2 ∧ R loc') ∧ Good F' (loc' ++ out) w' ∧ Ch (fun b => ∃ e ∈ inn, b ∈ e.foot) w w' ∧ (∀ b, F b → b < w.heap.size → F' b) ∧
      ∀ e ∈ loc', ∀ b ∈ e.foot, w.heap.size ≤ b ∨ ∃ e ∈ inn, b ∈ e.foot))) (bodyPostS P fn c0 cs (fun e u' w' => ∃ v F' loc', e = .returned v ∧ (u' = u2 ∧ R loc') ∧ Good F' (loc' ++ out) w' ∧ Ch (fun b => ∃ e ∈ inn, b ∈ e.foot) w w' ∧ (∀ b, F b → b < w.heap.size → F' b) ∧
      ∀ e ∈ loc', ∀ b ∈ e.foot, w.heap.size ≤ b ∨ ∃ e ∈ inn, b ∈ e.foot))) [1] (a0.put (some d) v) cs' w ↔ rest.wpS P (bodyPostS P fn c0 cs (fun e u' w' => ∃ v F' loc', e = .returned v ∧ (u' = u2 ∧ R loc') ∧ Good F' (loc' ++ out) w' ∧ Ch (fun b => ∃ e ∈ inn, b ∈ e.foot) w w' ∧ (∀ b, F b → b < w.heap.size → F' b) ∧
      ∀ e ∈ loc', ∀ b ∈ e.foot, w.heap.size ≤ b ∨ ∃ e ∈ inn, b ∈ e.foot)) ((a0.put (some d) v).put (some d2) v) cs' w := by
    intro cs'
    simp only [wpOpsS]
    rw [show (#[(⟨some d, .call ⟨.builtin .recover, #[], ats⟩, ty1, pos1, af1, none⟩ : Oper), ⟨some d2, .assign (.tmp d), ty2, pos2, af2, none⟩])[1]? = some ⟨some d2, .assign (.tmp d), ty2, pos2, af2, none⟩ from rfl]
    simp only [hw2, if_true, hrun2, hv, Oper.upon, Exit.thenS]
  unfold wpOpsS
  rw [show (#[(⟨some d, .call ⟨.builtin .recover, #[], ats⟩, ty1, pos1, af1, none⟩ : Oper), ⟨some d2, .assign (.tmp d), ty2, pos2, af2, none⟩])[0]? = some ⟨some d, .call ⟨.builtin .recover, #[], ats⟩, ty1, pos1, af1, none⟩ from rfl]
  simp only [hw1, if_true, hrun]
  rcases hrec c0 cs hu with hr | ⟨hr, rfl, he⟩
  · rw [hr]
    exact (hlast _).2 hk
  · rw [hr]
    rw [he] at hk
    exact (hlast _).2 hk
theorem rec_panic {v : Value} {older : List PanicEntry} (c0 : Frame) (cs : List Frame) (h : c0.mode = .panicking ({ v, recovered := false } :: older)) : recoverD (c0 :: cs) = some (v, { c0 with mode := .panicking ({ v, recovered := true } :: older) } :: cs) ∨ (recoverD (c0 :: cs) = none ∧ v = .nilIface ∧ { c0 with mode := .panicking ({ v, recovered := true } :: older) } = c0) := by
  left; simp only [recoverD, h]
theorem rec_idle (c0 : Frame) (cs : List Frame) (h : c0.mode = .returning) : recoverD (c0 :: cs) = some (.nilIface, { c0 with mode := .returning } :: cs) ∨ (recoverD (c0 :: cs) = none ∧ Value.nilIface = .nilIface ∧ { c0 with mode := .returning } = c0) := by
  right; refine ⟨?_, rfl, ?_⟩
  · simp only [recoverD, h]
  · rw [← h]
end Go.Fr

/- What is known of the types of functions: printed by a program from the translation's table of types. -/
namespace Go.Proofs.YtdpabdbeecbnmaaDoor
open Go Go.Fr
set_option maxRecDepth 100000 in
instance ti1 : TI Tryd.prog 1 1 8 .nilFunc := ⟨_, rfl, rfl, rfl, rfl⟩
set_option maxRecDepth 100000 in
instance ti22 : TI Tryd.prog 22 1 8 .nilFunc := ⟨_, rfl, rfl, rfl, rfl⟩
set_option maxRecDepth 100000 in
instance ti26 : TI Tryd.prog 26 1 8 .nilFunc := ⟨_, rfl, rfl, rfl, rfl⟩
set_option maxRecDepth 100000 in
instance ti27 : TI Tryd.prog 27 1 8 .nilFunc := ⟨_, rfl, rfl, rfl, rfl⟩
set_option maxRecDepth 100000 in
instance ti28 : TI Tryd.prog 28 1 8 .nilFunc := ⟨_, rfl, rfl, rfl, rfl⟩
set_option maxRecDepth 100000 in
instance ti29 : TI Tryd.prog 29 1 8 .nilFunc := ⟨_, rfl, rfl, rfl, rfl⟩
set_option maxRecDepth 100000 in
instance ti31 : TI Tryd.prog 31 1 8 .nilFunc := ⟨_, rfl, rfl, rfl, rfl⟩
set_option maxRecDepth 100000 in
instance ti32 : TI Tryd.prog 32 1 8 .nilFunc := ⟨_, rfl, rfl, rfl, rfl⟩
set_option maxRecDepth 100000 in
instance ti33 : TI Tryd.prog 33 1 8 .nilFunc := ⟨_, rfl, rfl, rfl, rfl⟩
set_option maxRecDepth 100000 in
instance ti36 : TI Tryd.prog 36 1 8 .nilFunc := ⟨_, rfl, rfl, rfl, rfl⟩
set_option maxRecDepth 100000 in
instance ti37 : TI Tryd.prog 37 1 8 .nilFunc := ⟨_, rfl, rfl, rfl, rfl⟩
set_option maxRecDepth 100000 in
instance ti40 : TI Tryd.prog 40 1 8 .nilFunc := ⟨_, rfl, rfl, rfl, rfl⟩
set_option maxRecDepth 100000 in
instance ti41 : TI Tryd.prog 41 1 8 .nilFunc := ⟨_, rfl, rfl, rfl, rfl⟩
set_option maxRecDepth 100000 in
instance ti43 : TI Tryd.prog 43 1 8 .nilFunc := ⟨_, rfl, rfl, rfl, rfl⟩
set_option maxRecDepth 100000 in
instance ti50 : TI Tryd.prog 50 1 8 .nilFunc := ⟨_, rfl, rfl, rfl, rfl⟩
set_option maxRecDepth 100000 in
instance ti52 : TI Tryd.prog 52 1 8 .nilFunc := ⟨_, rfl, rfl, rfl, rfl⟩
set_option maxRecDepth 100000 in
instance ti53 : TI Tryd.prog 53 1 8 .nilFunc := ⟨_, rfl, rfl, rfl, rfl⟩
set_option maxRecDepth 100000 in
instance ti54 : TI Tryd.prog 54 1 8 .nilFunc := ⟨_, rfl, rfl, rfl, rfl⟩
set_option maxRecDepth 100000 in
instance ti55 : TI Tryd.prog 55 1 8 .nilFunc := ⟨_, rfl, rfl, rfl, rfl⟩
set_option maxRecDepth 100000 in
instance ti56 : TI Tryd.prog 56 1 8 .nilFunc := ⟨_, rfl, rfl, rfl, rfl⟩
set_option maxRecDepth 100000 in
instance ti57 : TI Tryd.prog 57 1 8 .nilFunc := ⟨_, rfl, rfl, rfl, rfl⟩
set_option maxRecDepth 100000 in
instance ti58 : TI Tryd.prog 58 1 8 .nilFunc := ⟨_, rfl, rfl, rfl, rfl⟩
set_option maxRecDepth 100000 in
instance ti59 : TI Tryd.prog 59 1 8 .nilFunc := ⟨_, rfl, rfl, rfl, rfl⟩
set_option maxRecDepth 100000 in
instance ti63 : TI Tryd.prog 63 1 8 .nilFunc := ⟨_, rfl, rfl, rfl, rfl⟩
set_option maxRecDepth 100000 in
instance ti64 : TI Tryd.prog 64 1 8 .nilFunc := ⟨_, rfl, rfl, rfl, rfl⟩
set_option maxRecDepth 100000 in
instance ti68 : TI Tryd.prog 68 1 8 .nilFunc := ⟨_, rfl, rfl, rfl, rfl⟩
set_option maxRecDepth 100000 in
instance ti69 : TI Tryd.prog 69 1 8 .nilFunc := ⟨_, rfl, rfl, rfl, rfl⟩
set_option maxRecDepth 100000 in
instance ti71 : TI Tryd.prog 71 1 8 .nilFunc := ⟨_, rfl, rfl, rfl, rfl⟩
set_option maxRecDepth 100000 in
instance ti72 : TI Tryd.prog 72 1 8 .nilFunc := ⟨_, rfl, rfl, rfl, rfl⟩
set_option maxRecDepth 100000 in
instance ti73 : TI Tryd.prog 73 1 8 .nilFunc := ⟨_, rfl, rfl, rfl, rfl⟩
set_option maxRecDepth 100000 in
instance ti75 : TI Tryd.prog 75 1 8 .nilFunc := ⟨_, rfl, rfl, rfl, rfl⟩
set_option maxRecDepth 100000 in
instance ti78 : TI Tryd.prog 78 1 8 .nilFunc := ⟨_, rfl, rfl, rfl, rfl⟩
set_option maxRecDepth 100000 in
instance ti80 : TI Tryd.prog 80 1 8 .nilFunc := ⟨_, rfl, rfl, rfl, rfl⟩
set_option maxRecDepth 100000 in
instance ti81 : TI Tryd.prog 81 1 8 .nilFunc := ⟨_, rfl, rfl, rfl, rfl⟩
set_option maxRecDepth 100000 in
instance ti84 : TI Tryd.prog 84 1 8 .nilFunc := ⟨_, rfl, rfl, rfl, rfl⟩
set_option maxRecDepth 100000 in
instance ti85 : TI Tryd.prog 85 1 8 .nilFunc := ⟨_, rfl, rfl, rfl, rfl⟩
set_option maxRecDepth 100000 in
instance ti87 : TI Tryd.prog 87 1 8 .nilFunc := ⟨_, rfl, rfl, rfl, rfl⟩
set_option maxRecDepth 100000 in
instance ti89 : TI Tryd.prog 89 1 8 .nilFunc := ⟨_, rfl, rfl, rfl, rfl⟩
set_option maxRecDepth 100000 in
instance ti90 : TI Tryd.prog 90 1 8 .nilFunc := ⟨_, rfl, rfl, rfl, rfl⟩
set_option maxRecDepth 100000 in
instance ti92 : TI Tryd.prog 92 1 8 .nilFunc := ⟨_, rfl, rfl, rfl, rfl⟩
set_option maxRecDepth 100000 in
instance ti94 : TI Tryd.prog 94 1 8 .nilFunc := ⟨_, rfl, rfl, rfl, rfl⟩
set_option maxRecDepth 100000 in
instance ti97 : TI Tryd.prog 97 1 8 .nilFunc := ⟨_, rfl, rfl, rfl, rfl⟩
set_option maxRecDepth 100000 in
instance ti98 : TI Tryd.prog 98 1 8 .nilFunc := ⟨_, rfl, rfl, rfl, rfl⟩
set_option maxRecDepth 100000 in
instance ti99 : TI Tryd.prog 99 1 8 .nilFunc := ⟨_, rfl, rfl, rfl, rfl⟩
set_option maxRecDepth 100000 in
instance ti103 : TI Tryd.prog 103 1 8 .nilFunc := ⟨_, rfl, rfl, rfl, rfl⟩
set_option maxRecDepth 100000 in
instance ti104 : TI Tryd.prog 104 1 8 .nilFunc := ⟨_, rfl, rfl, rfl, rfl⟩
set_option maxRecDepth 100000 in
instance ti105 : TI Tryd.prog 105 1 8 .nilFunc := ⟨_, rfl, rfl, rfl, rfl⟩
set_option maxRecDepth 100000 in
instance ti109 : TI Tryd.prog 109 1 8 .nilFunc := ⟨_, rfl, rfl, rfl, rfl⟩
set_option maxRecDepth 100000 in
instance ti117 : TI Tryd.prog 117 1 8 .nilFunc := ⟨_, rfl, rfl, rfl, rfl⟩
set_option maxRecDepth 100000 in
instance ti120 : TI Tryd.prog 120 1 8 .nilFunc := ⟨_, rfl, rfl, rfl, rfl⟩
end Go.Proofs.YtdpabdbeecbnmaaDoor

/- Chapter 03: the closure that Lex defers. -/
-- STRINGS
-- ROWS
-- PRUNEC
-- IFACE
-- IFNIL
namespace Go.Proofs.YtdpabdbeecbnmaaDoor
open Go Go.RowKit Go.Kx Go.Fr Go.Lx
def resL (b0 b1 b2 : Nat) (p0 p1 p2 : SP) : List Ent := [row b0 23 1 [p0], row b1 3 1 [p1], row b2 24 1 [p2]]
set_option maxHeartbeats 1000000 in
set_option maxRecDepth 100000 in
theorem lex1_idle (b0 b1 b2 : Nat) (p0 p1 p2 : SP) : FnD Tryd.prog 23 [ex (.pointer (some ⟨b0, 0, none⟩)), ex (.pointer (some ⟨b1, 0, none⟩)), ex (.pointer (some ⟨b2, 0, none⟩))] (resL b0 b1 b2 p0 p1 p2) .returning (fun u loc => u = .returning ∧ loc = resL b0 b1 b2 p0 p1 p2) := by
  unfold resL
  refine FnD_rec Tryd.func23 rfl Tryd.ntmps23 rec_idle fun w0 F0 out => ?_
  (repeat' (first | refine WP_seq ?_ | refine WP_region ?_ | refine WPL_nil ?_ | (apply WPL_t; (first | exact WT_move rfl | (apply g_bin; first | exact WT_ifnn rfl rfl)); exact rfl) | refine WP_skip ?_ | refine WP_cond_f rfl ?_))
  exact ⟨.inl rfl, ret0 rfl (List.Sublist.refl _) rfl⟩
set_option maxHeartbeats 1000000 in
set_option maxRecDepth 100000 in
theorem lex1_panic (b0 b1 b2 : Nat) (p0 p1 p2 : SP) (i : Nat) : FnD Tryd.prog 23 [ex (.pointer (some ⟨b0, 0, none⟩)), ex (.pointer (some ⟨b1, 0, none⟩)), ex (.pointer (some ⟨b2, 0, none⟩))] (resL b0 b1 b2 p0 p1 p2) (.panicking [{ v := .iface 42 (.int .i64 (i : Int)), recovered := false }]) (fun u loc => u = .panicking [{ v := .iface 42 (.int .i64 (i : Int)), recovered := true }] ∧ loc = resL b0 b1 b2 (ex (.slice none 0 0)) (exI .i64 (i : Int)) (exI .i64 30)) := by
  unfold resL
  refine FnD_rec Tryd.func23 rfl Tryd.ntmps23 rec_panic fun w0 F0 out => ?_
  (repeat' (first | (apply at_region 2; refine Stop.out ?_) | refine WP_seq ?_ | refine WP_region ?_ | refine WPL_nil ?_ | (apply WPL_t; (first | exact WT_move rfl | (apply g_bin; first | exact WT_ifnh rfl rfl)); exact rfl) | refine WP_cond_t rfl ?_))
  refine ⟨?_⟩
  (refine WP_drawl 2 rfl ?_)
  (apply WPY_pure 0 rfl (by decide +kernel) rfl (by repeat (first | exact np_ret)) guard_none; (first | exact WT_move rfl); exact rfl)
  (apply WPY_pure 1 rfl (by decide +kernel) rfl (by repeat (first | exact np_ret)) guard_none; (first | (apply g_assert; first | exact WT_assert rfl rfl)); exact rfl)
  (refine WPY_one (H' := feet []) 2 (by decide +kernel) rfl guard_none (fun h => absurd h (by decide)) ?_)
  (first | (apply g_store; first | refine WO_store (k := 0) (l0 := []) rfl rfl rfl ?_))
  (refine WPY_one (H' := feet []) 3 (by decide +kernel) rfl guard_none (fun h => absurd h (by decide)) ?_)
  (first | (apply g_store; first | refine WO_store (k := 1) (l0 := []) rfl rfl rfl ?_))
  (refine WPY_one (H' := feet []) 4 (by decide +kernel) rfl guard_none (fun h => absurd h (by decide)) ?_)
  (first | (apply g_store; first | refine WO_store (k := 2) (l0 := []) rfl rfl rfl ?_))
  refine WPY_done (by decide +kernel) ?_
  exact ⟨.inl rfl, ret0 rfl (List.Sublist.refl _) rfl⟩
end Go.Proofs.YtdpabdbeecbnmaaDoor
