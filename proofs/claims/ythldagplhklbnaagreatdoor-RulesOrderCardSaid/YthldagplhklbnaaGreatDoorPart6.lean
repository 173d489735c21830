/- The specification's lists of names. -/
import Derived.Test.YthldagplhklbnaaGreatDoorPart4
import Derived.Test.YthldagplhklbnaaGreatDoorPart3
namespace Go.Proofs.YthldagplhklbnaaGreatDoor
open Go Go.RowKit Go.Kx Go.Fr
instance {s : List UInt8} : Scs (strV s) := by unfold strV; infer_instance
theorem flat_str_succ {α : Type} {l : List α} {f : α → List UInt8} {i : Nat} (h : i < l.length) : ((l.take (i + 1)).map f).flatMap strV = ((l.take i).map f).flatMap strV ++ [exT (f l[i])] := by
 rw [List.take_succ_eq_append_getElem h, List.map_append, List.flatMap_append]; rfl
set_option maxHeartbeats 4000000 in
set_option maxRecDepth 100000 in
theorem names14_any (k : Nat) (r : RulesD) (hsm : r.bonus.length ≤ 70 ∧ r.malus.length ≤ 70) : FnC Tryz.prog 65 [rul k r] [] (fun p loc => p = agg (nmsV r.n0 r.n1 r.n2 r.n3) ∧ loc = []) := by
 refine Zbe (i := 0) rfl (Zca (i := 1) rfl Zbl) fun hc => ?_
 refine Zbe (i := 0) rfl (Zca (i := 4) rfl Zbl) fun ht => ?_
 refine Zbe (i := 0) rfl (Zca (i := 5) rfl Zbl) fun hr => ?_
 obtain ⟨hsm1, hsm2⟩ := hsm
 obtain ⟨hc, hcb⟩ := hc
 obtain ⟨ht, htb⟩ := ht
 obtain ⟨hr, hrb⟩ := hr
 simp only [maxLen] at hc ht hr
 have hcb : r.crits.length * 64 ≤ 140737488355328 := hcb
 have htb : r.ties.length * 40 ≤ 140737488355328 := htb
 have hrb : r.rounds.length * 136 ≤ 140737488355328 := hrb
 refine Zb7 Tryz.func65 rfl Tryz.ntmps65 rfl fun w0 F0 out => ?_
 (repeat' (first | refine Za8 ?_ | refine Za1 ?_ | refine Za6 ?_ | (apply Za9; (exact Za4 rfl); exact rfl) | refine Zaa ?_ | (apply Zaj; exact rfl; first | (apply Zc9; refine Zbz rfl ?_; intro _) | (apply Zbi; refine Zba ?_; intro _))))
 rename_i b1 b2 b3
 refine Zbv (fun s : Nat × Value => ([(1, ex (.pointer (some ⟨b1, 0, none⟩))), (2, ex (.pointer (some ⟨b2, 0, none⟩))), (3, ex (.pointer (some ⟨b3, 0, none⟩))), (4, exI .i64 (s.1 : Int))], [vec s.2 9 1 s.1 (((r.crits.take s.1).map (·.name)).flatMap strV), row b3 107 4 [ex s.2, ex (.slice none 0 0), ex (.slice none 0 0), ex (.slice none 0 0)], row b2 107 4 [ex (.slice none 0 0), ex (.slice none 0 0), ex (.slice none 0 0), ex (.slice none 0 0)], row b1 28 9 (rulesV k r)])) (fun s => s.1 ≤ r.crits.length) (fun s => r.crits.length - s.1) (0, .slice none 0 0) ?_ (Nat.zero_le _) fun s hs => ?_
 · exact Leads_nilv 9 1 (Zae (by repeat (first | exact Zai | refine Zad rfl ?_)) (List.Sublist.refl _))
 obtain ⟨i, v⟩ := s
 simp only at hs ⊢
 by_cases hlt : i < r.crits.length
 · (repeat' (first | refine Za8 ?_ | refine Za1 ?_ | refine Za6 ?_ | (apply Za9; (first | exact Za3 rfl | (apply Za7; exact Zab (k := 3) rfl rfl rfl rfl) | (apply Zat; exact Zaf rfl rfl rfl) | (apply Zah; exact Zau rfl rfl) | (apply Zax; exact Zb3 rfl rfl)); exact rfl) | refine Zaa ?_ | refine Zag ?_ | (refine Zac rfl (fun hb => ?_) (fun hb => ?_) <;> (repeat (first | replace hb := Zam hb | replace hb := Zan hb)) <;> (try (exfalso; omega)))))
   all_goals (try (exfalso; omega))
   refine WP_cut1 (fun v2 : Value => ([(1, ex (.pointer (some ⟨b1, 0, none⟩))), (2, ex (.pointer (some ⟨b2, 0, none⟩))), (3, ex (.pointer (some ⟨b3, 0, none⟩))), (4, exI .i64 (i : Int))], [vec v2 9 1 (i + 1) ((((r.crits.take i).map (·.name)).flatMap strV) ++ [exT r.crits[i].name]), row b3 107 4 [ex v2, ex (.slice none 0 0), ex (.slice none 0 0), ex (.slice none 0 0)], row b2 107 4 [ex (.slice none 0 0), ex (.slice none 0 0), ex (.slice none 0 0), ex (.slice none 0 0)], row b1 28 9 (rulesV k r)])) (fun _ => True) ?_ fun v2 _ => ?_
   · skip
     (refine Zbx 9 rfl ?_)
     (try (first | (refine Zc2 (k := 1) rfl (by omega) ?_; intro _ _ hv _ _; subst hv)))
     (apply Za2 0 rfl (by decide +kernel) rfl (by repeat (first | exact Za5)) Za0; (first | (apply Zak; first | exact Zc5 rfl rfl rfl)); exact rfl)
     (try (first | (refine Zc2 (k := 1) rfl (by omega) ?_; intro _ _ hv _ _; subst hv)))
     (apply Zb0 1 rfl (by decide +kernel) rfl (by decide +kernel) (by repeat (exact Za5)) Za0; ((apply Za7; exact Zab (k := 1) rfl rfl rfl rfl)); exact rfl)
     (try (first | (refine Zc2 (k := 1) rfl (by omega) ?_; intro _ _ hv _ _; subst hv)))
     (apply Za2 2 rfl (by decide +kernel) rfl (by repeat (first | exact Za5)) Za0; (first | (apply Zat; first | exact Zaf rfl rfl rfl)); exact rfl)
     (try (first | (refine Zc2 (k := 1) rfl (by omega) ?_; intro _ _ hv _ _; subst hv)))
     (apply Za2 4 rfl (by decide +kernel) rfl (by repeat (first | exact Za5)) Za0; (first | exact Za3 rfl); exact rfl)
     (try (first | (refine Zc2 (k := 1) rfl (by omega) ?_; intro _ _ hv _ _; subst hv)))
     (refine Zap (H' := fun _ => True) 3 (by decide +kernel) rfl Za0 (fun _ _ _ => trivial) ?_)
     ((apply WO_t (H := fun _ => True); (first | (apply Za7; first | exact Zab (k := 3) rfl rfl rfl rfl)); exact rfl))
     (try (first | (refine Zc2 (k := 1) rfl (by omega) ?_; intro _ _ hv _ _; subst hv)))
     (apply Za2 5 rfl (by decide +kernel) rfl (by repeat (first | exact Za5)) Za0; (first | (apply Zak; first | exact Zar rfl rfl rfl)); exact rfl)
     (try (first | (refine Zc2 (k := 1) rfl (by omega) ?_; intro _ _ hv _ _; subst hv)))
     (apply Za2 6 rfl (by decide +kernel) rfl (by repeat (first | exact Za5)) Za0; (first | (apply Zat; first | exact Zay rfl rfl rfl)); exact rfl)
     (try (first | (refine Zc2 (k := 1) rfl (by omega) ?_; intro _ _ hv _ _; subst hv)))
     (refine Zap (H' := fun _ => True) 7 (by decide +kernel) rfl Za0 (fun _ _ _ => trivial) ?_)
     ((apply WO_t (H := fun _ => True); (first | (apply Za7; first | exact Zb1 rfl rfl)); exact rfl))
     (try (first | (refine Zc2 (k := 1) rfl (by omega) ?_; intro _ _ hv _ _; subst hv)))
     (refine Zap 8 (by decide +kernel) rfl Za0 (fun _ _ h => h) ?_)
     ((apply Zcb; (first | refine Zce rfl rfl ?_ | refine WO_bslice rfl (by repeat (first | exact PartsO.nil | (apply PartsO.cons; exact rfl; exact inferInstance; exact rfl; exact rfl))) ?_ | refine WO_bslice0 rfl ?_); intro _))
     (try (first | (refine Zc2 (k := 1) rfl (by omega) ?_; intro _ _ hv _ _; subst hv)))
     (refine Zap (H' := feet []) 9 (by decide +kernel) rfl Za0 (fun h => absurd h (by decide)) ?_)
     (first | (apply Zcj; (first | (refine Zci (k := 1) (l0 := []) rfl rfl (by first | exact Src_rowW (k := 0) rfl rfl) rfl ?_)); intro _))
     (try (first | (refine Zc2 (k := 1) rfl (by omega) ?_; intro _ _ hv _ _; subst hv)))
     (refine Zap (H' := fun _ => True) 10 (by decide +kernel) rfl Za0 (fun _ _ _ => trivial) ?_)
     ((apply WO_t (H := fun _ => True); (first | (apply Zak; first | exact Zc5 rfl rfl rfl)); exact rfl))
     (try (first | (refine Zc2 (k := 1) rfl (by omega) ?_; intro _ _ hv _ _; subst hv)))
     (refine Zap (H' := feet []) 11 (by decide +kernel) rfl Za0 (fun h => absurd h (by decide)) ?_)
     (first | (apply Zav; first | refine Zal (k := 2) (l0 := []) rfl rfl rfl ?_))
     (try (first | (refine Zc2 (k := 1) rfl (by omega) ?_; intro _ _ hv _ _; subst hv)))
     refine Zb9 (by decide +kernel) ?_
     exact Zbp _ trivial (Zbd 1 (by repeat (first | exact Zai | refine Zad rfl ?_)) rfl)
   (repeat' (first | refine Za1 ?_ | refine Za6 ?_ | (apply Za9; (first | exact Za3 rfl | exact Za4 rfl | (apply Zah; first | exact Zbf rfl rfl)); exact rfl)))
   refine ⟨(i + 1, v2), by show i + 1 ≤ r.crits.length; omega, by show r.crits.length - (i + 1) < r.crits.length - i; omega, ?_⟩
   simp only [flat_str_succ hlt]
   exact Zae (by repeat (first | exact Zai | refine Zad rfl ?_)) (List.Sublist.refl _)
 have hk9 : i = r.crits.length := by omega
 subst hk9
 rw [List.take_length]
 clear hs hlt
 (repeat' (first | refine Za8 ?_ | refine Za1 ?_ | refine Za6 ?_ | (apply Za9; (first | exact Za3 rfl | exact Za4 rfl | (apply Za7; exact Zab (k := 3) rfl rfl rfl rfl) | (apply Zat; exact Zaf rfl rfl rfl) | (apply Zah; exact Zau rfl rfl) | (apply Zax; exact Zb3 rfl rfl)); exact rfl) | refine Zaa ?_ | refine Zbk ?_ | (refine Zac rfl (fun hb => ?_) (fun hb => ?_) <;> (repeat (first | replace hb := Zam hb | replace hb := Zan hb)) <;> (try (exfalso; omega)))))
 all_goals (try (exfalso; omega))
 refine Zbv (fun s : Nat × Value => ([(1, ex (.pointer (some ⟨b1, 0, none⟩))), (2, ex (.pointer (some ⟨b2, 0, none⟩))), (3, ex (.pointer (some ⟨b3, 0, none⟩))), (5, exI .i64 (s.1 : Int))], [vec s.2 9 1 s.1 (((r.bonus.take s.1).map (·.name)).flatMap strV), row b3 107 4 [isl eStr r.n0, ex s.2, ex (.slice none 0 0), ex (.slice none 0 0)], row b2 107 4 [ex (.slice none 0 0), ex (.slice none 0 0), ex (.slice none 0 0), ex (.slice none 0 0)], row b1 28 9 (rulesV k r)])) (fun s => s.1 ≤ r.bonus.length) (fun s => r.bonus.length - s.1) (0, .slice none 0 0) ?_ (Nat.zero_le _) fun s hs => ?_
 · refine (Leads_fcell (j := 0) (k := 0) (i := 0) (E := eStr) r.n0 rfl rfl rfl (by simp [RulesD.n0]) rfl rfl (hby := by show _ * 16 ≤ _; omega)).trans ?_
   exact Leads_nilv 9 1 (Zae (by repeat (first | exact Zai | refine Zad rfl ?_)) (List.Sublist.refl _))
 obtain ⟨i, v⟩ := s
 simp only at hs ⊢
 by_cases hlt : i < r.bonus.length
 · (repeat' (first | refine Za8 ?_ | refine Za1 ?_ | refine Za6 ?_ | (apply Za9; (first | exact Za3 rfl | (apply Za7; exact Zab (k := 3) rfl rfl rfl rfl) | (apply Zat; exact Zaf rfl rfl rfl) | (apply Zah; exact Zau rfl rfl) | (apply Zax; exact Zb3 rfl rfl)); exact rfl) | refine Zaa ?_ | refine Zag ?_ | (refine Zac rfl (fun hb => ?_) (fun hb => ?_) <;> (repeat (first | replace hb := Zam hb | replace hb := Zan hb)) <;> (try (exfalso; omega)))))
   all_goals (try (exfalso; omega))
   refine WP_cut1 (fun v2 : Value => ([(1, ex (.pointer (some ⟨b1, 0, none⟩))), (2, ex (.pointer (some ⟨b2, 0, none⟩))), (3, ex (.pointer (some ⟨b3, 0, none⟩))), (5, exI .i64 (i : Int))], [vec v2 9 1 (i + 1) ((((r.bonus.take i).map (·.name)).flatMap strV) ++ [exT r.bonus[i].name]), row b3 107 4 [isl eStr r.n0, ex v2, ex (.slice none 0 0), ex (.slice none 0 0)], row b2 107 4 [ex (.slice none 0 0), ex (.slice none 0 0), ex (.slice none 0 0), ex (.slice none 0 0)], row b1 28 9 (rulesV k r)])) (fun _ => True) ?_ fun v2 _ => ?_
   · skip
     (refine Zbx 9 rfl ?_)
     (try (first | (refine Zc2 (k := 1) rfl (by omega) ?_; intro _ _ hv _ _; subst hv)))
     (apply Za2 0 rfl (by decide +kernel) rfl (by repeat (first | exact Za5)) Za0; (first | (apply Zak; first | exact Zc5 rfl rfl rfl)); exact rfl)
     (try (first | (refine Zc2 (k := 1) rfl (by omega) ?_; intro _ _ hv _ _; subst hv)))
     (apply Zb0 1 rfl (by decide +kernel) rfl (by decide +kernel) (by repeat (exact Za5)) Za0; ((apply Za7; exact Zab (k := 1) rfl rfl rfl rfl)); exact rfl)
     (try (first | (refine Zc2 (k := 1) rfl (by omega) ?_; intro _ _ hv _ _; subst hv)))
     (apply Za2 2 rfl (by decide +kernel) rfl (by repeat (first | exact Za5)) Za0; (first | (apply Zat; first | exact Zaf rfl rfl rfl)); exact rfl)
     (try (first | (refine Zc2 (k := 1) rfl (by omega) ?_; intro _ _ hv _ _; subst hv)))
     (apply Za2 4 rfl (by decide +kernel) rfl (by repeat (first | exact Za5)) Za0; (first | exact Za3 rfl); exact rfl)
     (try (first | (refine Zc2 (k := 1) rfl (by omega) ?_; intro _ _ hv _ _; subst hv)))
     (refine Zap (H' := fun _ => True) 3 (by decide +kernel) rfl Za0 (fun _ _ _ => trivial) ?_)
     ((apply WO_t (H := fun _ => True); (first | (apply Za7; first | exact Zab (k := 3) rfl rfl rfl rfl)); exact rfl))
     (try (first | (refine Zc2 (k := 1) rfl (by omega) ?_; intro _ _ hv _ _; subst hv)))
     (apply Za2 5 rfl (by decide +kernel) rfl (by repeat (first | exact Za5)) Za0; (first | (apply Zak; first | exact Zar rfl rfl rfl)); exact rfl)
     (try (first | (refine Zc2 (k := 1) rfl (by omega) ?_; intro _ _ hv _ _; subst hv)))
     (apply Za2 6 rfl (by decide +kernel) rfl (by repeat (first | exact Za5)) Za0; (first | (apply Zat; first | exact Zay rfl rfl rfl)); exact rfl)
     (try (first | (refine Zc2 (k := 1) rfl (by omega) ?_; intro _ _ hv _ _; subst hv)))
     (refine Zap (H' := fun _ => True) 7 (by decide +kernel) rfl Za0 (fun _ _ _ => trivial) ?_)
     ((apply WO_t (H := fun _ => True); (first | (apply Za7; first | exact Zb1 rfl rfl)); exact rfl))
     (try (first | (refine Zc2 (k := 1) rfl (by omega) ?_; intro _ _ hv _ _; subst hv)))
     (refine Zap 8 (by decide +kernel) rfl Za0 (fun _ _ h => h) ?_)
     ((apply Zcb; (first | refine Zce rfl rfl ?_ | refine WO_bslice rfl (by repeat (first | exact PartsO.nil | (apply PartsO.cons; exact rfl; exact inferInstance; exact rfl; exact rfl))) ?_ | refine WO_bslice0 rfl ?_); intro _))
     (try (first | (refine Zc2 (k := 1) rfl (by omega) ?_; intro _ _ hv _ _; subst hv)))
     (refine Zap (H' := feet []) 9 (by decide +kernel) rfl Za0 (fun h => absurd h (by decide)) ?_)
     (first | (apply Zcj; (first | (refine Zci (k := 1) (l0 := []) rfl rfl (by first | exact Src_rowW (k := 0) rfl rfl) rfl ?_)); intro _))
     (try (first | (refine Zc2 (k := 1) rfl (by omega) ?_; intro _ _ hv _ _; subst hv)))
     (refine Zap (H' := fun _ => True) 10 (by decide +kernel) rfl Za0 (fun _ _ _ => trivial) ?_)
     ((apply WO_t (H := fun _ => True); (first | (apply Zak; first | exact Zc5 rfl rfl rfl)); exact rfl))
     (try (first | (refine Zc2 (k := 1) rfl (by omega) ?_; intro _ _ hv _ _; subst hv)))
     (refine Zap (H' := feet []) 11 (by decide +kernel) rfl Za0 (fun h => absurd h (by decide)) ?_)
     (first | (apply Zav; first | refine Zal (k := 2) (l0 := []) rfl rfl rfl ?_))
     (try (first | (refine Zc2 (k := 1) rfl (by omega) ?_; intro _ _ hv _ _; subst hv)))
     refine Zb9 (by decide +kernel) ?_
     exact Zbp _ trivial (Zbd 1 (by repeat (first | exact Zai | refine Zad rfl ?_)) rfl)
   (repeat' (first | refine Za1 ?_ | refine Za6 ?_ | (apply Za9; (first | exact Za3 rfl | exact Za4 rfl | (apply Zah; first | exact Zbf rfl rfl)); exact rfl)))
   refine ⟨(i + 1, v2), by show i + 1 ≤ r.bonus.length; omega, by show r.bonus.length - (i + 1) < r.bonus.length - i; omega, ?_⟩
   simp only [flat_str_succ hlt]
   exact Zae (by repeat (first | exact Zai | refine Zad rfl ?_)) (List.Sublist.refl _)
 have hk9 : i = r.bonus.length := by omega
 subst hk9
 rw [List.take_length]
 clear hs hlt
 (repeat' (first | refine Za8 ?_ | refine Za1 ?_ | refine Za6 ?_ | (apply Za9; (first | exact Za3 rfl | exact Za4 rfl | (apply Za7; exact Zab (k := 3) rfl rfl rfl rfl) | (apply Zat; exact Zaf rfl rfl rfl) | (apply Zah; exact Zau rfl rfl) | (apply Zax; exact Zb3 rfl rfl)); exact rfl) | refine Zaa ?_ | refine Zbk ?_ | (refine Zac rfl (fun hb => ?_) (fun hb => ?_) <;> (repeat (first | replace hb := Zam hb | replace hb := Zan hb)) <;> (try (exfalso; omega)))))
 all_goals (try (exfalso; omega))
 refine Zbv (fun s : Nat × Value => ([(1, ex (.pointer (some ⟨b1, 0, none⟩))), (2, ex (.pointer (some ⟨b2, 0, none⟩))), (3, ex (.pointer (some ⟨b3, 0, none⟩))), (6, exI .i64 (s.1 : Int))], [vec s.2 9 1 (r.bonus.length + s.1) ((r.bonus.map (·.name)).flatMap strV ++ (((r.malus.take s.1).map (·.name)).flatMap strV)), row b3 107 4 [isl eStr r.n0, ex s.2, ex (.slice none 0 0), ex (.slice none 0 0)], row b2 107 4 [ex (.slice none 0 0), ex (.slice none 0 0), ex (.slice none 0 0), ex (.slice none 0 0)], row b1 28 9 (rulesV k r)])) (fun s => s.1 ≤ r.malus.length) (fun s => r.malus.length - s.1) (0, v) ?_ (Nat.zero_le _) fun s hs => ?_
 · simp only [List.take_zero, List.map_nil, List.flatMap_nil, List.append_nil, Nat.add_zero]
   exact Zae (by repeat (first | exact Zai | refine Zad rfl ?_)) (List.Sublist.refl _)
 obtain ⟨i, v⟩ := s
 simp only at hs ⊢
 by_cases hlt : i < r.malus.length
 · (repeat' (first | refine Za8 ?_ | refine Za1 ?_ | refine Za6 ?_ | (apply Za9; (first | exact Za3 rfl | (apply Za7; exact Zab (k := 3) rfl rfl rfl rfl) | (apply Zat; exact Zaf rfl rfl rfl) | (apply Zah; exact Zau rfl rfl) | (apply Zax; exact Zb3 rfl rfl)); exact rfl) | refine Zaa ?_ | refine Zag ?_ | (refine Zac rfl (fun hb => ?_) (fun hb => ?_) <;> (repeat (first | replace hb := Zam hb | replace hb := Zan hb)) <;> (try (exfalso; omega)))))
   all_goals (try (exfalso; omega))
   refine WP_cut1 (fun v2 : Value => ([(1, ex (.pointer (some ⟨b1, 0, none⟩))), (2, ex (.pointer (some ⟨b2, 0, none⟩))), (3, ex (.pointer (some ⟨b3, 0, none⟩))), (6, exI .i64 (i : Int))], [vec v2 9 1 ((r.bonus.length + i) + 1) (((r.bonus.map (·.name)).flatMap strV ++ (((r.malus.take i).map (·.name)).flatMap strV)) ++ [exT r.malus[i].name]), row b3 107 4 [isl eStr r.n0, ex v2, ex (.slice none 0 0), ex (.slice none 0 0)], row b2 107 4 [ex (.slice none 0 0), ex (.slice none 0 0), ex (.slice none 0 0), ex (.slice none 0 0)], row b1 28 9 (rulesV k r)])) (fun _ => True) ?_ fun v2 _ => ?_
   · skip
     (refine Zbx 9 rfl ?_)
     (try (first | (refine Zc2 (k := 1) rfl (by omega) ?_; intro _ _ hv _ _; subst hv)))
     (apply Za2 0 rfl (by decide +kernel) rfl (by repeat (first | exact Za5)) Za0; (first | (apply Zak; first | exact Zc5 rfl rfl rfl)); exact rfl)
     (try (first | (refine Zc2 (k := 1) rfl (by omega) ?_; intro _ _ hv _ _; subst hv)))
     (apply Zb0 1 rfl (by decide +kernel) rfl (by decide +kernel) (by repeat (exact Za5)) Za0; ((apply Za7; exact Zab (k := 1) rfl rfl rfl rfl)); exact rfl)
     (try (first | (refine Zc2 (k := 1) rfl (by omega) ?_; intro _ _ hv _ _; subst hv)))
     (apply Za2 2 rfl (by decide +kernel) rfl (by repeat (first | exact Za5)) Za0; (first | (apply Zat; first | exact Zaf rfl rfl rfl)); exact rfl)
     (try (first | (refine Zc2 (k := 1) rfl (by omega) ?_; intro _ _ hv _ _; subst hv)))
     (apply Za2 4 rfl (by decide +kernel) rfl (by repeat (first | exact Za5)) Za0; (first | exact Za3 rfl); exact rfl)
     (try (first | (refine Zc2 (k := 1) rfl (by omega) ?_; intro _ _ hv _ _; subst hv)))
     (refine Zap (H' := fun _ => True) 3 (by decide +kernel) rfl Za0 (fun _ _ _ => trivial) ?_)
     ((apply WO_t (H := fun _ => True); (first | (apply Za7; first | exact Zab (k := 3) rfl rfl rfl rfl)); exact rfl))
     (try (first | (refine Zc2 (k := 1) rfl (by omega) ?_; intro _ _ hv _ _; subst hv)))
     (apply Za2 5 rfl (by decide +kernel) rfl (by repeat (first | exact Za5)) Za0; (first | (apply Zak; first | exact Zar rfl rfl rfl)); exact rfl)
     (try (first | (refine Zc2 (k := 1) rfl (by omega) ?_; intro _ _ hv _ _; subst hv)))
     (apply Za2 6 rfl (by decide +kernel) rfl (by repeat (first | exact Za5)) Za0; (first | (apply Zat; first | exact Zay rfl rfl rfl)); exact rfl)
     (try (first | (refine Zc2 (k := 1) rfl (by omega) ?_; intro _ _ hv _ _; subst hv)))
     (refine Zap (H' := fun _ => True) 7 (by decide +kernel) rfl Za0 (fun _ _ _ => trivial) ?_)
     ((apply WO_t (H := fun _ => True); (first | (apply Za7; first | exact Zb1 rfl rfl)); exact rfl))
     (try (first | (refine Zc2 (k := 1) rfl (by omega) ?_; intro _ _ hv _ _; subst hv)))
     (refine Zap 8 (by decide +kernel) rfl Za0 (fun _ _ h => h) ?_)
     ((apply Zcb; (first | refine Zce rfl rfl ?_ | refine WO_bslice rfl (by repeat (first | exact PartsO.nil | (apply PartsO.cons; exact rfl; exact inferInstance; exact rfl; exact rfl))) ?_ | refine WO_bslice0 rfl ?_); intro _))
     (try (first | (refine Zc2 (k := 1) rfl (by omega) ?_; intro _ _ hv _ _; subst hv)))
     (refine Zap (H' := feet []) 9 (by decide +kernel) rfl Za0 (fun h => absurd h (by decide)) ?_)
     (first | (apply Zcj; (first | (refine Zci (k := 1) (l0 := []) rfl rfl (by first | exact Src_rowW (k := 0) rfl rfl) rfl ?_)); intro _))
     (try (first | (refine Zc2 (k := 1) rfl (by omega) ?_; intro _ _ hv _ _; subst hv)))
     (refine Zap (H' := fun _ => True) 10 (by decide +kernel) rfl Za0 (fun _ _ _ => trivial) ?_)
     ((apply WO_t (H := fun _ => True); (first | (apply Zak; first | exact Zc5 rfl rfl rfl)); exact rfl))
     (try (first | (refine Zc2 (k := 1) rfl (by omega) ?_; intro _ _ hv _ _; subst hv)))
     (refine Zap (H' := feet []) 11 (by decide +kernel) rfl Za0 (fun h => absurd h (by decide)) ?_)
     (first | (apply Zav; first | refine Zal (k := 2) (l0 := []) rfl rfl rfl ?_))
     (try (first | (refine Zc2 (k := 1) rfl (by omega) ?_; intro _ _ hv _ _; subst hv)))
     refine Zb9 (by decide +kernel) ?_
     exact Zbp _ trivial (Zbd 1 (by repeat (first | exact Zai | refine Zad rfl ?_)) rfl)
   (repeat' (first | refine Za1 ?_ | refine Za6 ?_ | (apply Za9; (first | exact Za3 rfl | exact Za4 rfl | (apply Zah; first | exact Zbf rfl rfl)); exact rfl)))
   refine ⟨(i + 1, v2), by show i + 1 ≤ r.malus.length; omega, by show r.malus.length - (i + 1) < r.malus.length - i; omega, ?_⟩
   simp only [flat_str_succ hlt, ← List.append_assoc, ← Nat.add_assoc]
   exact Zae (by repeat (first | exact Zai | refine Zad rfl ?_)) (List.Sublist.refl _)
 have hk9 : i = r.malus.length := by omega
 subst hk9
 rw [List.take_length]
 clear hs hlt
 (repeat' (first | refine Za8 ?_ | refine Za1 ?_ | refine Za6 ?_ | (apply Za9; (first | exact Za3 rfl | exact Za4 rfl | (apply Za7; exact Zab (k := 3) rfl rfl rfl rfl) | (apply Zat; exact Zaf rfl rfl rfl) | (apply Zah; exact Zau rfl rfl) | (apply Zax; exact Zb3 rfl rfl)); exact rfl) | refine Zaa ?_ | refine Zbk ?_ | (refine Zac rfl (fun hb => ?_) (fun hb => ?_) <;> (repeat (first | replace hb := Zam hb | replace hb := Zan hb)) <;> (try (exfalso; omega)))))
 all_goals (try (exfalso; omega))
 refine Zbv (fun s : Nat × Value => ([(1, ex (.pointer (some ⟨b1, 0, none⟩))), (2, ex (.pointer (some ⟨b2, 0, none⟩))), (3, ex (.pointer (some ⟨b3, 0, none⟩))), (7, exI .i64 (s.1 : Int))], [vec s.2 9 1 s.1 (((r.ties.take s.1).map (·.name)).flatMap strV), row b3 107 4 [isl eStr r.n0, isl eStr r.n1, ex s.2, ex (.slice none 0 0)], row b2 107 4 [ex (.slice none 0 0), ex (.slice none 0 0), ex (.slice none 0 0), ex (.slice none 0 0)], row b1 28 9 (rulesV k r)])) (fun s => s.1 ≤ r.ties.length) (fun s => r.ties.length - s.1) (0, .slice none 0 0) ?_ (Nat.zero_le _) fun s hs => ?_
 · refine (Leads_fcell (j := 0) (k := 0) (i := 1) (E := eStr) r.n1 rfl rfl (by simp [RulesD.n1, List.flatMap_append]) (by simp [RulesD.n1]) rfl rfl (hby := by show _ * 16 ≤ _; omega)).trans ?_
   exact Leads_nilv 9 1 (Zae (by repeat (first | exact Zai | refine Zad rfl ?_)) (List.Sublist.refl _))
 obtain ⟨i, v⟩ := s
 simp only at hs ⊢
 by_cases hlt : i < r.ties.length
 · (repeat' (first | refine Za8 ?_ | refine Za1 ?_ | refine Za6 ?_ | (apply Za9; (first | exact Za3 rfl | (apply Za7; exact Zab (k := 3) rfl rfl rfl rfl) | (apply Zat; exact Zaf rfl rfl rfl) | (apply Zah; exact Zau rfl rfl) | (apply Zax; exact Zb3 rfl rfl)); exact rfl) | refine Zaa ?_ | refine Zag ?_ | (refine Zac rfl (fun hb => ?_) (fun hb => ?_) <;> (repeat (first | replace hb := Zam hb | replace hb := Zan hb)) <;> (try (exfalso; omega)))))
   all_goals (try (exfalso; omega))
   refine WP_cut1 (fun v2 : Value => ([(1, ex (.pointer (some ⟨b1, 0, none⟩))), (2, ex (.pointer (some ⟨b2, 0, none⟩))), (3, ex (.pointer (some ⟨b3, 0, none⟩))), (7, exI .i64 (i : Int))], [vec v2 9 1 (i + 1) ((((r.ties.take i).map (·.name)).flatMap strV) ++ [exT r.ties[i].name]), row b3 107 4 [isl eStr r.n0, isl eStr r.n1, ex v2, ex (.slice none 0 0)], row b2 107 4 [ex (.slice none 0 0), ex (.slice none 0 0), ex (.slice none 0 0), ex (.slice none 0 0)], row b1 28 9 (rulesV k r)])) (fun _ => True) ?_ fun v2 _ => ?_
   · skip
     (refine Zbx 9 rfl ?_)
     (try (first | (refine Zc2 (k := 1) rfl (by omega) ?_; intro _ _ hv _ _; subst hv)))
     (apply Za2 0 rfl (by decide +kernel) rfl (by repeat (first | exact Za5)) Za0; (first | (apply Zak; first | exact Zc5 rfl rfl rfl)); exact rfl)
     (try (first | (refine Zc2 (k := 1) rfl (by omega) ?_; intro _ _ hv _ _; subst hv)))
     (apply Zb0 1 rfl (by decide +kernel) rfl (by decide +kernel) (by repeat (exact Za5)) Za0; ((apply Za7; exact Zab (k := 1) rfl rfl rfl rfl)); exact rfl)
     (try (first | (refine Zc2 (k := 1) rfl (by omega) ?_; intro _ _ hv _ _; subst hv)))
     (apply Za2 2 rfl (by decide +kernel) rfl (by repeat (first | exact Za5)) Za0; (first | (apply Zat; first | exact Zaf rfl rfl rfl)); exact rfl)
     (try (first | (refine Zc2 (k := 1) rfl (by omega) ?_; intro _ _ hv _ _; subst hv)))
     (apply Za2 4 rfl (by decide +kernel) rfl (by repeat (first | exact Za5)) Za0; (first | exact Za3 rfl); exact rfl)
     (try (first | (refine Zc2 (k := 1) rfl (by omega) ?_; intro _ _ hv _ _; subst hv)))
     (refine Zap (H' := fun _ => True) 3 (by decide +kernel) rfl Za0 (fun _ _ _ => trivial) ?_)
     ((apply WO_t (H := fun _ => True); (first | (apply Za7; first | exact Zab (k := 3) rfl rfl rfl rfl)); exact rfl))
     (try (first | (refine Zc2 (k := 1) rfl (by omega) ?_; intro _ _ hv _ _; subst hv)))
     (apply Za2 5 rfl (by decide +kernel) rfl (by repeat (first | exact Za5)) Za0; (first | (apply Zak; first | exact Zar rfl rfl rfl)); exact rfl)
     (try (first | (refine Zc2 (k := 1) rfl (by omega) ?_; intro _ _ hv _ _; subst hv)))
     (apply Za2 6 rfl (by decide +kernel) rfl (by repeat (first | exact Za5)) Za0; (first | (apply Zat; first | exact Zay rfl rfl rfl)); exact rfl)
     (try (first | (refine Zc2 (k := 1) rfl (by omega) ?_; intro _ _ hv _ _; subst hv)))
     (refine Zap (H' := fun _ => True) 7 (by decide +kernel) rfl Za0 (fun _ _ _ => trivial) ?_)
     ((apply WO_t (H := fun _ => True); (first | (apply Za7; first | exact Zb1 rfl rfl)); exact rfl))
     (try (first | (refine Zc2 (k := 1) rfl (by omega) ?_; intro _ _ hv _ _; subst hv)))
     (refine Zap 8 (by decide +kernel) rfl Za0 (fun _ _ h => h) ?_)
     ((apply Zcb; (first | refine Zce rfl rfl ?_ | refine WO_bslice rfl (by repeat (first | exact PartsO.nil | (apply PartsO.cons; exact rfl; exact inferInstance; exact rfl; exact rfl))) ?_ | refine WO_bslice0 rfl ?_); intro _))
     (try (first | (refine Zc2 (k := 1) rfl (by omega) ?_; intro _ _ hv _ _; subst hv)))
     (refine Zap (H' := feet []) 9 (by decide +kernel) rfl Za0 (fun h => absurd h (by decide)) ?_)
     (first | (apply Zcj; (first | (refine Zci (k := 1) (l0 := []) rfl rfl (by first | exact Src_rowW (k := 0) rfl rfl) rfl ?_)); intro _))
     (try (first | (refine Zc2 (k := 1) rfl (by omega) ?_; intro _ _ hv _ _; subst hv)))
     (refine Zap (H' := fun _ => True) 10 (by decide +kernel) rfl Za0 (fun _ _ _ => trivial) ?_)
     ((apply WO_t (H := fun _ => True); (first | (apply Zak; first | exact Zc5 rfl rfl rfl)); exact rfl))
     (try (first | (refine Zc2 (k := 1) rfl (by omega) ?_; intro _ _ hv _ _; subst hv)))
     (refine Zap (H' := feet []) 11 (by decide +kernel) rfl Za0 (fun h => absurd h (by decide)) ?_)
     (first | (apply Zav; first | refine Zal (k := 2) (l0 := []) rfl rfl rfl ?_))
     (try (first | (refine Zc2 (k := 1) rfl (by omega) ?_; intro _ _ hv _ _; subst hv)))
     refine Zb9 (by decide +kernel) ?_
     exact Zbp _ trivial (Zbd 1 (by repeat (first | exact Zai | refine Zad rfl ?_)) rfl)
   (repeat' (first | refine Za1 ?_ | refine Za6 ?_ | (apply Za9; (first | exact Za3 rfl | exact Za4 rfl | (apply Zah; first | exact Zbf rfl rfl)); exact rfl)))
   refine ⟨(i + 1, v2), by show i + 1 ≤ r.ties.length; omega, by show r.ties.length - (i + 1) < r.ties.length - i; omega, ?_⟩
   simp only [flat_str_succ hlt]
   exact Zae (by repeat (first | exact Zai | refine Zad rfl ?_)) (List.Sublist.refl _)
 have hk9 : i = r.ties.length := by omega
 subst hk9
 rw [List.take_length]
 clear hs hlt
 (repeat' (first | refine Za8 ?_ | refine Za1 ?_ | refine Za6 ?_ | (apply Za9; (first | exact Za3 rfl | exact Za4 rfl | (apply Za7; exact Zab (k := 3) rfl rfl rfl rfl) | (apply Zat; exact Zaf rfl rfl rfl) | (apply Zah; exact Zau rfl rfl) | (apply Zax; exact Zb3 rfl rfl)); exact rfl) | refine Zaa ?_ | refine Zbk ?_ | (refine Zac rfl (fun hb => ?_) (fun hb => ?_) <;> (repeat (first | replace hb := Zam hb | replace hb := Zan hb)) <;> (try (exfalso; omega)))))
 all_goals (try (exfalso; omega))
 refine Zbv (fun s : Nat × Value => ([(1, ex (.pointer (some ⟨b1, 0, none⟩))), (2, ex (.pointer (some ⟨b2, 0, none⟩))), (3, ex (.pointer (some ⟨b3, 0, none⟩))), (8, exI .i64 (s.1 : Int))], [vec s.2 9 1 s.1 (((r.rounds.take s.1).map (·.name)).flatMap strV), row b3 107 4 [isl eStr r.n0, isl eStr r.n1, isl eStr r.n2, ex s.2], row b2 107 4 [ex (.slice none 0 0), ex (.slice none 0 0), ex (.slice none 0 0), ex (.slice none 0 0)], row b1 28 9 (rulesV k r)])) (fun s => s.1 ≤ r.rounds.length) (fun s => r.rounds.length - s.1) (0, .slice none 0 0) ?_ (Nat.zero_le _) fun s hs => ?_
 · refine (Leads_fcell (j := 0) (k := 0) (i := 2) (E := eStr) r.n2 rfl rfl rfl (by simp [RulesD.n2]) rfl rfl (hby := by show _ * 16 ≤ _; omega)).trans ?_
   exact Leads_nilv 9 1 (Zae (by repeat (first | exact Zai | refine Zad rfl ?_)) (List.Sublist.refl _))
 obtain ⟨i, v⟩ := s
 simp only at hs ⊢
 by_cases hlt : i < r.rounds.length
 · (repeat' (first | refine Za8 ?_ | refine Za1 ?_ | refine Za6 ?_ | (apply Za9; (first | exact Za3 rfl | (apply Za7; exact Zab (k := 3) rfl rfl rfl rfl) | (apply Zat; exact Zaf rfl rfl rfl) | (apply Zah; exact Zau rfl rfl) | (apply Zax; exact Zb3 rfl rfl)); exact rfl) | refine Zaa ?_ | refine Zag ?_ | (refine Zac rfl (fun hb => ?_) (fun hb => ?_) <;> (repeat (first | replace hb := Zam hb | replace hb := Zan hb)) <;> (try (exfalso; omega)))))
   all_goals (try (exfalso; omega))
   refine WP_cut1 (fun v2 : Value => ([(1, ex (.pointer (some ⟨b1, 0, none⟩))), (2, ex (.pointer (some ⟨b2, 0, none⟩))), (3, ex (.pointer (some ⟨b3, 0, none⟩))), (8, exI .i64 (i : Int))], [vec v2 9 1 (i + 1) ((((r.rounds.take i).map (·.name)).flatMap strV) ++ [exT r.rounds[i].name]), row b3 107 4 [isl eStr r.n0, isl eStr r.n1, isl eStr r.n2, ex v2], row b2 107 4 [ex (.slice none 0 0), ex (.slice none 0 0), ex (.slice none 0 0), ex (.slice none 0 0)], row b1 28 9 (rulesV k r)])) (fun _ => True) ?_ fun v2 _ => ?_
   · skip
     (refine Zbx 9 rfl ?_)
     (try (first | (refine Zc2 (k := 1) rfl (by omega) ?_; intro _ _ hv _ _; subst hv)))
     (apply Za2 0 rfl (by decide +kernel) rfl (by repeat (first | exact Za5)) Za0; (first | (apply Zak; first | exact Zc5 rfl rfl rfl)); exact rfl)
     (try (first | (refine Zc2 (k := 1) rfl (by omega) ?_; intro _ _ hv _ _; subst hv)))
     (apply Zb0 1 rfl (by decide +kernel) rfl (by decide +kernel) (by repeat (exact Za5)) Za0; ((apply Za7; exact Zab (k := 1) rfl rfl rfl rfl)); exact rfl)
     (try (first | (refine Zc2 (k := 1) rfl (by omega) ?_; intro _ _ hv _ _; subst hv)))
     (apply Za2 2 rfl (by decide +kernel) rfl (by repeat (first | exact Za5)) Za0; (first | (apply Zat; first | exact Zaf rfl rfl rfl)); exact rfl)
     (try (first | (refine Zc2 (k := 1) rfl (by omega) ?_; intro _ _ hv _ _; subst hv)))
     (apply Za2 4 rfl (by decide +kernel) rfl (by repeat (first | exact Za5)) Za0; (first | exact Za3 rfl); exact rfl)
     (try (first | (refine Zc2 (k := 1) rfl (by omega) ?_; intro _ _ hv _ _; subst hv)))
     (refine Zap (H' := fun _ => True) 3 (by decide +kernel) rfl Za0 (fun _ _ _ => trivial) ?_)
     ((apply WO_t (H := fun _ => True); (first | (apply Za7; first | exact Zab (k := 3) rfl rfl rfl rfl)); exact rfl))
     (try (first | (refine Zc2 (k := 1) rfl (by omega) ?_; intro _ _ hv _ _; subst hv)))
     (apply Za2 5 rfl (by decide +kernel) rfl (by repeat (first | exact Za5)) Za0; (first | (apply Zak; first | exact Zar rfl rfl rfl)); exact rfl)
     (try (first | (refine Zc2 (k := 1) rfl (by omega) ?_; intro _ _ hv _ _; subst hv)))
     (apply Za2 6 rfl (by decide +kernel) rfl (by repeat (first | exact Za5)) Za0; (first | (apply Zat; first | exact Zay rfl rfl rfl)); exact rfl)
     (try (first | (refine Zc2 (k := 1) rfl (by omega) ?_; intro _ _ hv _ _; subst hv)))
     (refine Zap (H' := fun _ => True) 7 (by decide +kernel) rfl Za0 (fun _ _ _ => trivial) ?_)
     ((apply WO_t (H := fun _ => True); (first | (apply Za7; first | exact Zb1 rfl rfl)); exact rfl))
     (try (first | (refine Zc2 (k := 1) rfl (by omega) ?_; intro _ _ hv _ _; subst hv)))
     (refine Zap 8 (by decide +kernel) rfl Za0 (fun _ _ h => h) ?_)
     ((apply Zcb; (first | refine Zce rfl rfl ?_ | refine WO_bslice rfl (by repeat (first | exact PartsO.nil | (apply PartsO.cons; exact rfl; exact inferInstance; exact rfl; exact rfl))) ?_ | refine WO_bslice0 rfl ?_); intro _))
     (try (first | (refine Zc2 (k := 1) rfl (by omega) ?_; intro _ _ hv _ _; subst hv)))
     (refine Zap (H' := feet []) 9 (by decide +kernel) rfl Za0 (fun h => absurd h (by decide)) ?_)
     (first | (apply Zcj; (first | (refine Zci (k := 1) (l0 := []) rfl rfl (by first | exact Src_rowW (k := 0) rfl rfl) rfl ?_)); intro _))
     (try (first | (refine Zc2 (k := 1) rfl (by omega) ?_; intro _ _ hv _ _; subst hv)))
     (refine Zap (H' := fun _ => True) 10 (by decide +kernel) rfl Za0 (fun _ _ _ => trivial) ?_)
     ((apply WO_t (H := fun _ => True); (first | (apply Zak; first | exact Zc5 rfl rfl rfl)); exact rfl))
     (try (first | (refine Zc2 (k := 1) rfl (by omega) ?_; intro _ _ hv _ _; subst hv)))
     (refine Zap (H' := feet []) 11 (by decide +kernel) rfl Za0 (fun h => absurd h (by decide)) ?_)
     (first | (apply Zav; first | refine Zal (k := 2) (l0 := []) rfl rfl rfl ?_))
     (try (first | (refine Zc2 (k := 1) rfl (by omega) ?_; intro _ _ hv _ _; subst hv)))
     refine Zb9 (by decide +kernel) ?_
     exact Zbp _ trivial (Zbd 1 (by repeat (first | exact Zai | refine Zad rfl ?_)) rfl)
   (repeat' (first | refine Za1 ?_ | refine Za6 ?_ | (apply Za9; (first | exact Za3 rfl | exact Za4 rfl | (apply Zah; first | exact Zbf rfl rfl)); exact rfl)))
   refine ⟨(i + 1, v2), by show i + 1 ≤ r.rounds.length; omega, by show r.rounds.length - (i + 1) < r.rounds.length - i; omega, ?_⟩
   simp only [flat_str_succ hlt]
   exact Zae (by repeat (first | exact Zai | refine Zad rfl ?_)) (List.Sublist.refl _)
 have hk9 : i = r.rounds.length := by omega
 subst hk9
 rw [List.take_length]
 clear hs hlt
 (repeat' (first | (apply cut_at 22; refine Stop.out ?_) | refine Za8 ?_ | refine Za1 ?_ | refine Za6 ?_ | (apply Za9; (first | exact Za3 rfl | (apply Za7; exact Zab (k := 3) rfl rfl rfl rfl) | (apply Zat; exact Zaf rfl rfl rfl) | (apply Zah; exact Zau rfl rfl) | (apply Zax; exact Zb3 rfl rfl)); exact rfl) | refine Zbk ?_ | (refine Zac rfl (fun hb => ?_) (fun hb => ?_) <;> (repeat (first | replace hb := Zam hb | replace hb := Zan hb)) <;> (try (exfalso; omega)))))
 all_goals (try (exfalso; omega))
 constructor
 apply Zbn
 · exact Leads_fcell (j := 0) (k := 0) (i := 3) (E := eStr) r.n3 rfl rfl rfl (by simp [RulesD.n3]) rfl rfl (hby := by show _ * 16 ≤ _; omega)
 (repeat' (first | refine Za8 ?_ | refine Za1 ?_ | refine Za6 ?_ | (apply Za9; ((apply Za7; exact Zb6 (k := 0) rfl rfl rfl)); exact rfl) | refine Zaq ?_ | (apply Zaj; exact rfl; (apply Zav; refine Zal (k := 1) (l0 := []) rfl rfl rfl ?_))))
 exact ⟨.inr rfl, ret1 rfl (.cella (k := 1) rfl rfl rfl rfl inferInstance rfl) (List.nil_sublist _) ⟨rfl, rfl⟩⟩
end Go.Proofs.YthldagplhklbnaaGreatDoor
namespace Go.Proofs.YthldagplhklbnaaGreatDoor
open Go Go.RowKit Go.Kx Go.Fr
instance Scs_append {ps qs : List SP} [h : Scs ps] [k : Scs qs] : Scs (ps ++ qs) := ⟨fun p hp => (List.mem_append.1 hp).elim (h.out p) (k.out p)⟩
def nth4 (r : RulesD) (i : Nat) : List (List UInt8) := if i = 0 then r.n0 else if i = 1 then r.n1 else if i = 2 then r.n2 else r.n3
theorem nth4_at (r : RulesD) (i : Nat) (h : i < 4) : (nmsV r.n0 r.n1 r.n2 r.n3)[0 + i * 1]? = some (isl eStr (nth4 r i)) := by
 have : i = 0 ∨ i = 1 ∨ i = 2 ∨ i = 3 := by omega
 rcases this with rfl | rfl | rfl | rfl <;> rfl
def lst4 (r : RulesD) : List (List (List UInt8)) := [r.n0, r.n1, r.n2, r.n3]
theorem lst4_at (r : RulesD) (i : Nat) (h : i < 4) : (lst4 r)[i]'(by simpa [lst4] using h) = nth4 r i := by
 have : i = 0 ∨ i = 1 ∨ i = 2 ∨ i = 3 := by omega
 rcases this with rfl | rfl | rfl | rfl <;> rfl
def frI (r : RulesD) (i : Nat) : Bool := freeF r.name && ((lst4 r).take i).all (fun l => l.all freeF)
def twI (r : RulesD) (i : Nat) : Bool := ((lst4 r).take i).any (fun l => !onceF l)
def twQ (l : List (List UInt8)) (q : Nat) : Bool := (List.range q).any (fun p => decide (indexF l (l.getD p []) ≠ (p : Int)))
theorem twQ_succ (l : List (List UInt8)) (q : Nat) (h : q < l.length) : twQ l (q + 1) = (twQ l q || !decide (indexF l l[q] = (q : Int))) := by
 unfold twQ
 rw [List.range_succ, List.any_append]
 simp [h]
theorem twQ_all (l : List (List UInt8)) : twQ l l.length = !onceF l := by
 rw [Bool.eq_iff_iff]
 simp only [twQ, List.any_eq_true, List.mem_range, decide_eq_true_eq, Bool.not_eq_true']
 constructor
 · rintro ⟨p, hp, h⟩
   cases e : onceF l with
   | false => rfl
   | true =>
     have := onceF_index.1 e p hp
     rw [List.getD_eq_getElem?_getD, List.getElem?_eq_getElem hp] at h
     exact absurd this h
 · intro e
   apply Classical.byContradiction
   intro hn
   have : onceF l = true := onceF_index.2 fun i hi => Classical.byContradiction fun h => hn ⟨i, hi, by rw [List.getD_eq_getElem?_getD, List.getElem?_eq_getElem hi]; exact h⟩
   rw [this] at e; cases e
theorem nth4_len {r : RulesD} (h : r.few = true) (i : Nat) : (nth4 r i).length ≤ 140 := by
 obtain ⟨h1, h2, h3, h4, h5, _⟩ := few_facts h
 unfold nth4 RulesD.n0 RulesD.n1 RulesD.n2 RulesD.n3
 split
 · rw [List.length_map]; omega
 · split
   · rw [List.length_append, List.length_map, List.length_map]; omega
   · split <;> rw [List.length_map] <;> omega
theorem im_zero' (k : Nat) : Im (agg [ex (.string .empty), ex (.slice none 0 0), ex (.slice none 0 0), ex (.slice none 0 0), ex (.slice none 0 0), ex (.slice none 0 0), ex (.slice none 0 0), ex (.slice none 0 0), ex (.int .i64 0)]) (rul k RulesD.zero) := Ims.agg (.cons (.refl _) (.cons .nil (.cons .nil (.cons .nil (.cons .nil (.cons .nil (.cons .nil (.cons .nil (.cons (.refl _) .nil)))))))))
set_option maxHeartbeats 4000000 in
set_option maxRecDepth 100000 in
theorem r14resolve_any (k : Nat) (r : RulesD) (hf : r.few = true) : FnC Tryz.prog 30 [rul k r] [] (fun p loc => p = tup [rul k (r.resolve freeF).1, exI .i64 (r.resolve freeF).2] ∧ loc = []) := by
 obtain ⟨hf1, hf2, hf3, hf4, hf5, hf6, hf7, hf8, hf9⟩ := few_facts hf
 have hlar := large14_any k r hf9
 have hnms := names14_any k r ⟨hf2, hf3⟩
 refine Zb7 Tryz.func30 rfl Tryz.ntmps30 rfl fun w0 F0 out => ?_
 cases hL : r.large
 case true =>
   rw [hL] at hlar
   (repeat' (first | refine Za8 ?_ | refine Za1 ?_ | refine Za6 ?_ | (apply Za9; (first | exact Za4 rfl | (apply Za7; exact Zb6 (k := 1) rfl rfl rfl) | (apply g_build; exact WT_build2 rfl rfl (by repeat (exact PartsO.nil)))); exact rfl) | refine Zaq ?_ | refine Zb4 rfl ?_ | (apply Zaj; exact rfl; first | (apply Zao; (refine Zaw Tryz.func64 rfl hlar rfl ?_; rintro _ _ ⟨rfl, rfl⟩)) | (apply Zc9; refine Zbz rfl ?_; intro _) | (apply Zbi; refine Zba ?_; intro _) | (apply Zav; refine Zal (k := 0) (l0 := []) rfl rfl rfl ?_))))
   (refine ⟨.inr rfl, retw (loc' := []) (by first | exact ret2 rfl (.cella (k := 0) rfl rfl rfl rfl inferInstance rfl) (.tmp rfl) (List.nil_sublist _) ⟨rfl, rfl⟩) ?_ ⟨rfl, rfl⟩⟩)
   have e : r.resolve freeF = (RulesD.zero, 2) := by unfold RulesD.resolve; rw [hL]; rfl
   rw [e]
   exact Ims.tup (.cons (im_zero' k) (.cons (.refl _) .nil))
 rw [hL] at hlar
 (repeat' (first | refine Za8 ?_ | refine Za1 ?_ | refine Za6 ?_ | (apply Za9; (first | exact Za4 rfl | (apply Za7; first | exact Zab (k := 2) rfl rfl rfl rfl | exact Zb6 (k := 1) rfl rfl rfl) | (apply Zat; exact Zaf rfl rfl rfl)); exact rfl) | refine Zaa ?_ | refine Zag ?_ | refine Zb8 rfl ?_ | (apply Zaj; exact rfl; first | (apply Zao; first | (refine Zaw Tryz.func64 rfl hlar rfl ?_; rintro _ _ ⟨rfl, rfl⟩) | (refine Zaw Tryz.func65 rfl hnms rfl ?_; rintro _ _ ⟨rfl, rfl⟩) | (refine Zaw Tryz.func66 rfl (r14free_any _) rfl ?_; rintro _ _ ⟨rfl, rfl⟩)) | (apply Zc9; refine Zbz rfl ?_; intro _) | (apply Zbi; refine Zba ?_; intro _) | (apply Zav; refine Zal (k := 0) (l0 := []) rfl rfl rfl ?_))))
 rename_i b1 b2 b4
 refine Zbv (fun i : Nat => ([(1, ex (.pointer (some ⟨b1, 0, none⟩))), (2, ex (.pointer (some ⟨b2, 0, none⟩))), (4, ex (.pointer (some ⟨b4, 0, none⟩))), (5, exB (twI r i)), (6, exB (frI r i)), (7, exI .i64 (i : Int))], [row b4 107 4 (nmsV r.n0 r.n1 r.n2 r.n3), row b2 28 9 [ex (.string .empty), ex (.slice none 0 0), ex (.slice none 0 0), ex (.slice none 0 0), ex (.slice none 0 0), ex (.slice none 0 0), ex (.slice none 0 0), ex (.slice none 0 0), ex (.int .i64 0)], row b1 28 9 (rulesV k r)])) (fun i => i ≤ 4) (fun i => 4 - i) 0 ?_ (Nat.zero_le _) fun i hi => ?_
 · have e1 : frI r 0 = freeF r.name := by simp [frI]
   have e2 : twI r 0 = false := rfl
   rw [e1, e2]
   exact Zae (by repeat (first | exact Zai | refine Zad rfl ?_)) (List.Sublist.refl _)
 by_cases hlt : i < 4
 · have hp4 := nth4_at r i hlt
   have hlen := nth4_len hf i
   (repeat' (first | refine Za8 ?_ | refine Za1 ?_ | refine Za6 ?_ | (apply Za9; (first | exact Za3 rfl | exact Za4 rfl | (apply Zah; exact Zau rfl rfl)); exact rfl) | refine Zaa ?_ | refine Zag ?_ | (refine Zac rfl (fun hb => ?_) (fun hb => ?_) <;> (repeat (first | replace hb := Zam hb | replace hb := Zan hb)) <;> (try (exfalso; omega)))))
   all_goals (try (exfalso; omega))
   refine Zbv (fun q : Nat => ([(1, ex (.pointer (some ⟨b1, 0, none⟩))), (2, ex (.pointer (some ⟨b2, 0, none⟩))), (4, ex (.pointer (some ⟨b4, 0, none⟩))), (5, exB (twI r i || twQ (nth4 r i) q)), (6, exB (frI r i && ((nth4 r i).take q).all freeF)), (7, exI .i64 (i : Int)), (8, exI .i64 (q : Int))], [row b4 107 4 (nmsV r.n0 r.n1 r.n2 r.n3), row b2 28 9 [ex (.string .empty), ex (.slice none 0 0), ex (.slice none 0 0), ex (.slice none 0 0), ex (.slice none 0 0), ex (.slice none 0 0), ex (.slice none 0 0), ex (.slice none 0 0), ex (.int .i64 0)], row b1 28 9 (rulesV k r)])) (fun q => q ≤ (nth4 r i).length) (fun q => (nth4 r i).length - q) 0 ?_ (Nat.zero_le _) fun q hq => ?_
   · simp only [List.take_zero, List.all_nil, Bool.and_true, show twQ (nth4 r i) 0 = false from rfl, Bool.or_false]
     exact Zae (by repeat (first | exact Zai | refine Zad rfl ?_)) (List.Sublist.refl _)
   by_cases hlq : q < (nth4 r i).length
   · generalize hT : (twI r i || twQ (nth4 r i) q) = tb
     generalize hF : (frI r i && ((nth4 r i).take q).all freeF) = fb
     have eT : (twI r i || twQ (nth4 r i) (q + 1)) = (tb || !decide (indexF (nth4 r i) (nth4 r i)[q] = (q : Int))) := by rw [twQ_succ _ _ hlq, ← Bool.or_assoc, hT]
     have eF : (frI r i && ((nth4 r i).take (q + 1)).all freeF) = (fb && freeF (nth4 r i)[q]) := by rw [all_take_succ hlq, ← Bool.and_assoc, hF]
     clear hT hF
     cases tb <;> cases fb
     · (repeat' (first | refine Za8 ?_ | refine Za1 ?_ | refine Za6 ?_ | (apply Za9; (first | exact Za3 rfl | exact Za4 rfl | exact Zas (b := false) rfl (fun e => by cases e) (fun _ => rfl) | (apply Za7; exact Zab (k := 0) rfl rfl (by assumption) rfl) | (apply Zah; exact Zau rfl rfl) | (apply Zak; exact Zc5 rfl rfl rfl) | (apply Zax; exact Zb3 rfl rfl)); exact rfl) | (refine Zbq rfl rfl rfl rfl rfl ?_) | refine Zaa ?_ | refine Zag ?_ | (refine Zac rfl (fun hb => ?_) (fun hb => ?_) <;> (repeat (first | replace hb := Zam hb | replace hb := Zan hb)) <;> (try (exfalso; omega)))))
       all_goals (try (exfalso; omega))
       (refine Zbx 16 rfl ?_)
       all_goals ((apply Za2 0 rfl (by decide +kernel) rfl (by repeat (first | exact Za5)) Za0; (first | exact Za3 rfl); exact rfl))
       all_goals ((apply Za2 1 rfl (by decide +kernel) rfl (by repeat (first | exact Za5)) Za0; (first | exact Za3 rfl); exact rfl))
       all_goals (first | (refine WPY_case 51 rfl (fun hb => ?_) (fun hb => ?_) <;> (repeat (first | replace hb := Zam hb | replace hb := Zan hb | replace hb := Zbr hb | replace hb := Zbs hb)) <;> (try (exfalso; first | (cases hb; done) | omega))) | skip)
       all_goals (first | (apply Za2 2 rfl (by decide +kernel) rfl (by repeat (first | exact Za5)) (Zaz rfl rfl rfl); (first | exact Za3 rfl); exact rfl))
       all_goals ((apply Za2 3 rfl (by decide +kernel) rfl (by repeat (exact Za5)) (Zaz rfl rfl rfl); ((apply Zak; exact Zc5 rfl rfl rfl)); exact rfl))
       all_goals ((apply Zb0 4 rfl (by decide +kernel) rfl (by decide +kernel) (by repeat (exact Za5)) (Zaz rfl rfl rfl); ((apply Za7; exact Zab (k := 0) rfl rfl (by assumption) rfl)); exact rfl))
       all_goals (first | (apply Za2 5 rfl (by decide +kernel) rfl (by repeat (first | exact Za5)) (Zaz rfl rfl rfl); (first | exact Za3 rfl); exact rfl))
       all_goals ((apply Za2 6 rfl (by decide +kernel) rfl (by repeat (exact Za5)) (Zaz rfl rfl rfl); ((apply Zak; exact Zc5 rfl rfl rfl)); exact rfl))
       all_goals ((apply Zb0 7 rfl (by decide +kernel) rfl (by decide +kernel) (by repeat (exact Za5)) (Zaz rfl rfl rfl); ((apply Za7; exact Zab (k := 0) rfl rfl (by assumption) rfl)); exact rfl))
       all_goals (first | (apply Za2 8 rfl (by decide +kernel) rfl (by repeat (first | exact Za5)) (Zaz rfl rfl rfl); (first | exact Za3 rfl); exact rfl))
       all_goals ((apply Za2 9 rfl (by decide +kernel) rfl (by repeat (exact Za5)) (Zaz rfl rfl rfl); ((apply Zak; exact Zar rfl rfl rfl)); exact rfl))
       all_goals ((apply Zb0 10 rfl (by decide +kernel) rfl (by decide +kernel) (by repeat (exact Za5)) (Zaz rfl rfl rfl); ((apply Za7; exact Zb1 rfl rfl)); exact rfl))
       all_goals (first | (apply Za2 12 rfl (by decide +kernel) rfl (by repeat (first | exact Za5)) (Zaz rfl rfl rfl); (first | exact Za3 rfl); exact rfl))
       all_goals ((apply Zap 11; exact (by decide +kernel); exact rfl; exact (Zaz rfl rfl rfl); exact (fun _ _ h => h); (apply Zao; (refine Zaw Tryz.func67 rfl (r14index_any _ _) rfl ?_; rintro _ _ ⟨rfl, rfl⟩))))
       all_goals ((apply Za2 13 rfl (by decide +kernel) rfl (by repeat (exact Za5)) (Zaz rfl rfl rfl); ((apply Zah; exact Zc3 rfl rfl)); exact rfl))
       all_goals ((apply Za2 14 rfl (by decide +kernel) rfl (by repeat (exact Za5)) Za0; (exact Zas (b := false) rfl (fun e => by cases e) (fun _ => rfl)); exact rfl))
       all_goals ((apply Za2 15 rfl (by decide +kernel) rfl (by repeat (first | exact Za5)) Za0; (first | exact Za4 rfl); exact rfl))
       all_goals (refine Zb9 (by decide +kernel) ?_)
       all_goals ((repeat' (first | refine Za1 ?_ | refine Za6 ?_ | (apply Za9; (first | exact Za3 rfl | exact Za4 rfl | (apply Zah; exact Zbf rfl rfl)); exact rfl))))
       all_goals (try (exfalso; omega))
       all_goals (refine ⟨q + 1, by omega, by omega, ?_⟩; rw [eT, eF])
       all_goals exact Zae (by repeat (first | exact Zai | refine Zad rfl ?_)) (List.Sublist.refl _)
     · (repeat' (first | refine Za8 ?_ | refine Za1 ?_ | refine Za6 ?_ | (apply Za9; (first | exact Za3 rfl | exact Za4 rfl | exact Zas (b := true) rfl (fun _ => rfl) (fun e => by cases e) | (apply Za7; exact Zab (k := 0) rfl rfl (by assumption) rfl) | (apply Zah; exact Zau rfl rfl) | (apply Zak; exact Zc5 rfl rfl rfl) | (apply Zax; exact Zb3 rfl rfl)); exact rfl) | (apply Zbt; exact rfl; exact rfl; exact rfl; (first | exact Za3 rfl | (apply Za7; first | exact Zb1 rfl rfl | exact Zab (k := 0) rfl rfl (by assumption) rfl) | (apply Zak; first | exact Zar rfl rfl rfl | exact Zc5 rfl rfl rfl)); exact rfl) | refine Zaa ?_ | refine Zag ?_ | (apply Zc8; exact rfl; exact rfl; exact rfl; exact rfl; (apply Zao; (refine Zaw Tryz.func66 rfl (r14free_any _) rfl ?_; rintro _ _ ⟨rfl, rfl⟩))) | (refine Zac rfl (fun hb => ?_) (fun hb => ?_) <;> (repeat (first | replace hb := Zam hb | replace hb := Zan hb)) <;> (try (exfalso; omega)))))
       all_goals (try (exfalso; omega))
       (refine Zbx 16 rfl ?_)
       all_goals ((apply Za2 0 rfl (by decide +kernel) rfl (by repeat (first | exact Za5)) Za0; (first | exact Za3 rfl); exact rfl))
       all_goals ((apply Za2 1 rfl (by decide +kernel) rfl (by repeat (first | exact Za5)) Za0; (first | exact Za3 rfl); exact rfl))
       all_goals (first | (refine WPY_case 51 rfl (fun hb => ?_) (fun hb => ?_) <;> (repeat (first | replace hb := Zam hb | replace hb := Zan hb | replace hb := Zbr hb | replace hb := Zbs hb)) <;> (try (exfalso; first | (cases hb; done) | omega))) | skip)
       all_goals (first | (apply Za2 2 rfl (by decide +kernel) rfl (by repeat (first | exact Za5)) (Zaz rfl rfl rfl); (first | exact Za3 rfl); exact rfl))
       all_goals ((apply Za2 3 rfl (by decide +kernel) rfl (by repeat (exact Za5)) (Zaz rfl rfl rfl); ((apply Zak; exact Zc5 rfl rfl rfl)); exact rfl))
       all_goals ((apply Zb0 4 rfl (by decide +kernel) rfl (by decide +kernel) (by repeat (exact Za5)) (Zaz rfl rfl rfl); ((apply Za7; exact Zab (k := 0) rfl rfl (by assumption) rfl)); exact rfl))
       all_goals (first | (apply Za2 5 rfl (by decide +kernel) rfl (by repeat (first | exact Za5)) (Zaz rfl rfl rfl); (first | exact Za3 rfl); exact rfl))
       all_goals ((apply Za2 6 rfl (by decide +kernel) rfl (by repeat (exact Za5)) (Zaz rfl rfl rfl); ((apply Zak; exact Zc5 rfl rfl rfl)); exact rfl))
       all_goals ((apply Zb0 7 rfl (by decide +kernel) rfl (by decide +kernel) (by repeat (exact Za5)) (Zaz rfl rfl rfl); ((apply Za7; exact Zab (k := 0) rfl rfl (by assumption) rfl)); exact rfl))
       all_goals (first | (apply Za2 8 rfl (by decide +kernel) rfl (by repeat (first | exact Za5)) (Zaz rfl rfl rfl); (first | exact Za3 rfl); exact rfl))
       all_goals ((apply Za2 9 rfl (by decide +kernel) rfl (by repeat (exact Za5)) (Zaz rfl rfl rfl); ((apply Zak; exact Zar rfl rfl rfl)); exact rfl))
       all_goals ((apply Zb0 10 rfl (by decide +kernel) rfl (by decide +kernel) (by repeat (exact Za5)) (Zaz rfl rfl rfl); ((apply Za7; exact Zb1 rfl rfl)); exact rfl))
       all_goals (first | (apply Za2 12 rfl (by decide +kernel) rfl (by repeat (first | exact Za5)) (Zaz rfl rfl rfl); (first | exact Za3 rfl); exact rfl))
       all_goals ((apply Zap 11; exact (by decide +kernel); exact rfl; exact (Zaz rfl rfl rfl); exact (fun _ _ h => h); (apply Zao; (refine Zaw Tryz.func67 rfl (r14index_any _ _) rfl ?_; rintro _ _ ⟨rfl, rfl⟩))))
       all_goals ((apply Za2 13 rfl (by decide +kernel) rfl (by repeat (exact Za5)) (Zaz rfl rfl rfl); ((apply Zah; exact Zc3 rfl rfl)); exact rfl))
       all_goals ((apply Za2 14 rfl (by decide +kernel) rfl (by repeat (exact Za5)) Za0; (exact Zas (b := false) rfl (fun e => by cases e) (fun _ => rfl)); exact rfl))
       all_goals ((apply Za2 15 rfl (by decide +kernel) rfl (by repeat (first | exact Za5)) Za0; (first | exact Za4 rfl); exact rfl))
       all_goals (refine Zb9 (by decide +kernel) ?_)
       all_goals ((repeat' (first | refine Za1 ?_ | refine Za6 ?_ | (apply Za9; (first | exact Za3 rfl | exact Za4 rfl | (apply Zah; exact Zbf rfl rfl)); exact rfl))))
       all_goals (try (exfalso; omega))
       all_goals (refine ⟨q + 1, by omega, by omega, ?_⟩; rw [eT, eF])
       all_goals exact Zae (by repeat (first | exact Zai | refine Zad rfl ?_)) (List.Sublist.refl _)
     · (repeat' (first | refine Za8 ?_ | refine Za1 ?_ | refine Za6 ?_ | (apply Za9; (first | exact Za3 rfl | exact Za4 rfl | exact Zas (b := false) rfl (fun e => by cases e) (fun _ => rfl) | (apply Za7; exact Zab (k := 0) rfl rfl (by assumption) rfl) | (apply Zah; exact Zau rfl rfl) | (apply Zak; exact Zc5 rfl rfl rfl) | (apply Zax; exact Zb3 rfl rfl)); exact rfl) | (refine Zbq rfl rfl rfl rfl rfl ?_) | refine Zaa ?_ | refine Zag ?_ | (refine Zac rfl (fun hb => ?_) (fun hb => ?_) <;> (repeat (first | replace hb := Zam hb | replace hb := Zan hb)) <;> (try (exfalso; omega)))))
       all_goals (try (exfalso; omega))
       (refine Zbx 16 rfl ?_)
       all_goals ((apply Za2 0 rfl (by decide +kernel) rfl (by repeat (first | exact Za5)) Za0; (first | exact Za3 rfl); exact rfl))
       all_goals ((apply Za2 1 rfl (by decide +kernel) rfl (by repeat (first | exact Za5)) Za0; (first | exact Za3 rfl); exact rfl))
       all_goals (first | (refine WPY_case 51 rfl (fun hb => ?_) (fun hb => ?_) <;> (repeat (first | replace hb := Zam hb | replace hb := Zan hb | replace hb := Zbr hb | replace hb := Zbs hb)) <;> (try (exfalso; first | (cases hb; done) | omega))) | skip)
       all_goals (first | (refine Zbj 2 rfl (by decide +kernel) rfl (by repeat (first | exact Za5)) rfl rfl rfl rfl rfl ?_))
       all_goals (first | (refine Zbj 3 rfl (by decide +kernel) rfl (by repeat (first | exact Za5)) rfl rfl rfl rfl rfl ?_))
       all_goals (first | (refine Zbj 4 rfl (by decide +kernel) rfl (by repeat (first | exact Za5)) rfl rfl rfl rfl rfl ?_))
       all_goals (first | (refine Zbj 5 rfl (by decide +kernel) rfl (by repeat (first | exact Za5)) rfl rfl rfl rfl rfl ?_))
       all_goals (first | (refine Zbj 6 rfl (by decide +kernel) rfl (by repeat (first | exact Za5)) rfl rfl rfl rfl rfl ?_))
       all_goals (first | (refine Zbj 7 rfl (by decide +kernel) rfl (by repeat (first | exact Za5)) rfl rfl rfl rfl rfl ?_))
       all_goals (first | (refine Zbj 8 rfl (by decide +kernel) rfl (by repeat (first | exact Za5)) rfl rfl rfl rfl rfl ?_))
       all_goals (first | (refine Zbj 9 rfl (by decide +kernel) rfl (by repeat (first | exact Za5)) rfl rfl rfl rfl rfl ?_))
       all_goals (first | (refine Zbj 10 rfl (by decide +kernel) rfl (by repeat (first | exact Za5)) rfl rfl rfl rfl rfl ?_))
       all_goals (first | (refine Zbj 12 rfl (by decide +kernel) rfl (by repeat (first | exact Za5)) rfl rfl rfl rfl rfl ?_))
       all_goals (first | (refine Zbj 11 rfl (by decide +kernel) rfl (by repeat (first | exact Za5)) rfl rfl rfl rfl rfl ?_))
       all_goals (first | (refine Zbj 13 rfl (by decide +kernel) rfl (by repeat (first | exact Za5)) rfl rfl rfl rfl rfl ?_))
       all_goals ((apply Za2 14 rfl (by decide +kernel) rfl (by repeat (exact Za5)) Za0; (exact Zas (b := true) rfl (fun _ => rfl) (fun e => by cases e)); exact rfl))
       all_goals ((apply Za2 15 rfl (by decide +kernel) rfl (by repeat (first | exact Za5)) Za0; (first | exact Za4 rfl); exact rfl))
       all_goals (refine Zb9 (by decide +kernel) ?_)
       all_goals ((repeat' (first | refine Za1 ?_ | refine Za6 ?_ | (apply Za9; (first | exact Za3 rfl | exact Za4 rfl | (apply Zah; exact Zbf rfl rfl)); exact rfl))))
       all_goals (try (exfalso; omega))
       all_goals (refine ⟨q + 1, by omega, by omega, ?_⟩; rw [eT, eF])
       all_goals exact Zae (by repeat (first | exact Zai | refine Zad rfl ?_)) (List.Sublist.refl _)
     · (repeat' (first | refine Za8 ?_ | refine Za1 ?_ | refine Za6 ?_ | (apply Za9; (first | exact Za3 rfl | exact Za4 rfl | exact Zas (b := true) rfl (fun _ => rfl) (fun e => by cases e) | (apply Za7; exact Zab (k := 0) rfl rfl (by assumption) rfl) | (apply Zah; exact Zau rfl rfl) | (apply Zak; exact Zc5 rfl rfl rfl) | (apply Zax; exact Zb3 rfl rfl)); exact rfl) | (apply Zbt; exact rfl; exact rfl; exact rfl; (first | exact Za3 rfl | (apply Za7; first | exact Zb1 rfl rfl | exact Zab (k := 0) rfl rfl (by assumption) rfl) | (apply Zak; first | exact Zar rfl rfl rfl | exact Zc5 rfl rfl rfl)); exact rfl) | refine Zaa ?_ | refine Zag ?_ | (apply Zc8; exact rfl; exact rfl; exact rfl; exact rfl; (apply Zao; (refine Zaw Tryz.func66 rfl (r14free_any _) rfl ?_; rintro _ _ ⟨rfl, rfl⟩))) | (refine Zac rfl (fun hb => ?_) (fun hb => ?_) <;> (repeat (first | replace hb := Zam hb | replace hb := Zan hb)) <;> (try (exfalso; omega)))))
       all_goals (try (exfalso; omega))
       (refine Zbx 16 rfl ?_)
       all_goals ((apply Za2 0 rfl (by decide +kernel) rfl (by repeat (first | exact Za5)) Za0; (first | exact Za3 rfl); exact rfl))
       all_goals ((apply Za2 1 rfl (by decide +kernel) rfl (by repeat (first | exact Za5)) Za0; (first | exact Za3 rfl); exact rfl))
       all_goals (first | (refine WPY_case 51 rfl (fun hb => ?_) (fun hb => ?_) <;> (repeat (first | replace hb := Zam hb | replace hb := Zan hb | replace hb := Zbr hb | replace hb := Zbs hb)) <;> (try (exfalso; first | (cases hb; done) | omega))) | skip)
       all_goals (first | (refine Zbj 2 rfl (by decide +kernel) rfl (by repeat (first | exact Za5)) rfl rfl rfl rfl rfl ?_))
       all_goals (first | (refine Zbj 3 rfl (by decide +kernel) rfl (by repeat (first | exact Za5)) rfl rfl rfl rfl rfl ?_))
       all_goals (first | (refine Zbj 4 rfl (by decide +kernel) rfl (by repeat (first | exact Za5)) rfl rfl rfl rfl rfl ?_))
       all_goals (first | (refine Zbj 5 rfl (by decide +kernel) rfl (by repeat (first | exact Za5)) rfl rfl rfl rfl rfl ?_))
       all_goals (first | (refine Zbj 6 rfl (by decide +kernel) rfl (by repeat (first | exact Za5)) rfl rfl rfl rfl rfl ?_))
       all_goals (first | (refine Zbj 7 rfl (by decide +kernel) rfl (by repeat (first | exact Za5)) rfl rfl rfl rfl rfl ?_))
       all_goals (first | (refine Zbj 8 rfl (by decide +kernel) rfl (by repeat (first | exact Za5)) rfl rfl rfl rfl rfl ?_))
       all_goals (first | (refine Zbj 9 rfl (by decide +kernel) rfl (by repeat (first | exact Za5)) rfl rfl rfl rfl rfl ?_))
       all_goals (first | (refine Zbj 10 rfl (by decide +kernel) rfl (by repeat (first | exact Za5)) rfl rfl rfl rfl rfl ?_))
       all_goals (first | (refine Zbj 12 rfl (by decide +kernel) rfl (by repeat (first | exact Za5)) rfl rfl rfl rfl rfl ?_))
       all_goals (first | (refine Zbj 11 rfl (by decide +kernel) rfl (by repeat (first | exact Za5)) rfl rfl rfl rfl rfl ?_))
       all_goals (first | (refine Zbj 13 rfl (by decide +kernel) rfl (by repeat (first | exact Za5)) rfl rfl rfl rfl rfl ?_))
       all_goals ((apply Za2 14 rfl (by decide +kernel) rfl (by repeat (exact Za5)) Za0; (exact Zas (b := true) rfl (fun _ => rfl) (fun e => by cases e)); exact rfl))
       all_goals ((apply Za2 15 rfl (by decide +kernel) rfl (by repeat (first | exact Za5)) Za0; (first | exact Za4 rfl); exact rfl))
       all_goals (refine Zb9 (by decide +kernel) ?_)
       all_goals ((repeat' (first | refine Za1 ?_ | refine Za6 ?_ | (apply Za9; (first | exact Za3 rfl | exact Za4 rfl | (apply Zah; exact Zbf rfl rfl)); exact rfl))))
       all_goals (try (exfalso; omega))
       all_goals (refine ⟨q + 1, by omega, by omega, ?_⟩; rw [eT, eF])
       all_goals exact Zae (by repeat (first | exact Zai | refine Zad rfl ?_)) (List.Sublist.refl _)
   · have hk9 : q = (nth4 r i).length := by omega
     subst hk9
     rw [List.take_length, twQ_all]
     (repeat' (first | refine Za8 ?_ | refine Za1 ?_ | refine Za6 ?_ | (apply Za9; (first | exact Za3 rfl | exact Za4 rfl | (apply Za7; exact Zab (k := 0) rfl rfl (by assumption) rfl) | (apply Zah; first | exact Zau rfl rfl | exact Zbf rfl rfl) | (apply Zak; exact Zc5 rfl rfl rfl) | (apply Zax; exact Zb3 rfl rfl)); exact rfl) | refine Zbk ?_ | (refine Zac rfl (fun hb => ?_) (fun hb => ?_) <;> (repeat (first | replace hb := Zam hb | replace hb := Zan hb)) <;> (try (exfalso; omega)))))
     all_goals (try (exfalso; omega))
     refine ⟨i + 1, by omega, by omega, ?_⟩
     have e1 : frI r (i + 1) = (frI r i && (nth4 r i).all freeF) := by
       unfold frI; rw [all_take_succ (by simpa [lst4] using hlt), lst4_at r i hlt, Bool.and_assoc]
     have e2 : twI r (i + 1) = (twI r i || !onceF (nth4 r i)) := by
       unfold twI; rw [any_take_succ (by simpa [lst4] using hlt), lst4_at r i hlt]
     rw [e1, e2]
     exact Zae (by repeat (first | exact Zai | refine Zad rfl ?_)) (List.Sublist.refl _)
 have hk9 : i = 4 := by omega
 subst hk9
 have e1 : frI r 4 = (freeF r.name && (r.n0.all freeF && (r.n1.all freeF && (r.n2.all freeF && r.n3.all freeF)))) := by simp [frI, lst4]
 have e2 : twI r 4 = !r.once := by simp [twI, lst4, RulesD.once]
 rw [e1, e2]
 clear e1 e2
 generalize hfr : (freeF r.name && (r.n0.all freeF && (r.n1.all freeF && (r.n2.all freeF && r.n3.all freeF)))) = fr
 cases fr
 · (repeat' (first | refine Za8 ?_ | refine Za1 ?_ | refine Za6 ?_ | (apply Za9; (first | exact Za3 rfl | exact Za4 rfl | (apply Zah; exact Zau rfl rfl) | (apply g_un; exact Zbg rfl) | (apply g_build; exact WT_build2 rfl rfl (by repeat (exact PartsO.nil)))); exact rfl) | refine Zaq ?_ | refine Zbk ?_ | refine Zb4 rfl ?_ | refine Zb8 rfl ?_ | (apply Zaj; exact rfl; (apply Zav; refine Zal (k := 1) (l0 := []) rfl rfl rfl ?_))))
   all_goals (try (exfalso; omega))
   (refine ⟨.inr rfl, retw (loc' := []) (by first | exact ret2 rfl (.cella (k := 1) rfl rfl rfl rfl inferInstance rfl) (.tmp rfl) (List.nil_sublist _) ⟨rfl, rfl⟩) ?_ ⟨rfl, rfl⟩⟩)
   have e : r.resolve freeF = (RulesD.zero, 140) := by unfold RulesD.resolve; rw [hL, hfr]; rfl
   rw [e]
   exact Ims.tup (.cons (im_zero' k) (.cons (.refl _) .nil))
 cases hon : r.once
 · (repeat' (first | refine Za8 ?_ | refine Za1 ?_ | refine Za6 ?_ | (apply Za9; (first | exact Za3 rfl | exact Za4 rfl | (apply Zah; exact Zau rfl rfl) | (apply g_un; exact Zbg rfl) | (apply g_build; exact WT_build2 rfl rfl (by repeat (exact PartsO.nil)))); exact rfl) | refine Zag ?_ | refine Zaq ?_ | refine Zbk ?_ | refine Zb4 rfl ?_ | refine Zb8 rfl ?_ | (apply Zaj; exact rfl; (apply Zav; refine Zal (k := 1) (l0 := []) rfl rfl rfl ?_))))
   all_goals (try (exfalso; omega))
   (refine ⟨.inr rfl, retw (loc' := []) (by first | exact ret2 rfl (.cella (k := 1) rfl rfl rfl rfl inferInstance rfl) (.tmp rfl) (List.nil_sublist _) ⟨rfl, rfl⟩) ?_ ⟨rfl, rfl⟩⟩)
   have e : r.resolve freeF = (RulesD.zero, 141) := by unfold RulesD.resolve; rw [hL, hfr, hon]; rfl
   rw [e]
   exact Ims.tup (.cons (im_zero' k) (.cons (.refl _) .nil))
 have eres : r.resolve freeF = if !r.allOk then (RulesD.zero, 140) else (r.resolved, 0) := by unfold RulesD.resolve; rw [hL, hfr, hon]; rfl
 rw [eres]
 clear eres hlar hnms hfr hon
 (repeat' (first | refine Za8 ?_ | refine Za1 ?_ | refine Za6 ?_ | (apply Za9; (first | exact Za3 rfl | exact Za4 rfl | (apply Za7; exact Zb6 (k := 2) rfl rfl rfl) | (apply Zat; exact Zaf rfl rfl rfl) | (apply Zah; exact Zau rfl rfl) | (apply g_un; exact Zbg rfl)); exact rfl) | refine Zaa ?_ | refine Zag ?_ | refine Zbk ?_ | refine Zb8 rfl ?_ | (apply Zaj; exact rfl; first | (apply Zbi; refine Zba ?_; intro _) | (apply Zav; refine Zal (k := 0) (l0 := []) rfl rfl rfl ?_))))
 all_goals (try (exfalso; omega))
 rename_i b10
 refine Zbv (fun s : Nat × Value => ([(1, ex (.pointer (some ⟨b1, 0, none⟩))), (2, ex (.pointer (some ⟨b2, 0, none⟩))), (4, ex (.pointer (some ⟨b4, 0, none⟩))), (9, exB ((r.ties.take s.1).all r.tieOk)), (10, ex (.pointer (some ⟨b10, 0, none⟩))), (11, exI .i64 (s.1 : Int))], vec s.2 40 2 s.1 (((r.ties.take s.1).map r.tieN).flatMap tieV) :: row b10 28 9 [exT r.name, isl eCrit r.crits, isl eItem r.bonus, isl eItem r.malus, ex s.2, ex (.slice none 0 0), isl eI r.prizes, isl eI r.points, exI .i64 r.best] :: [row b4 107 4 (nmsV r.n0 r.n1 r.n2 r.n3), row b2 28 9 [ex (.string .empty), ex (.slice none 0 0), ex (.slice none 0 0), ex (.slice none 0 0), ex (.slice none 0 0), ex (.slice none 0 0), ex (.slice none 0 0), ex (.slice none 0 0), ex (.int .i64 0)], row b1 28 9 (rulesV k r)])) (fun s => s.1 ≤ r.ties.length) (fun s => r.ties.length - s.1) (0, .slice none 0 0) ?_ (Nat.zero_le _) fun s hs => ?_
 · exact Leads_nilv 40 2 (Zae (by repeat (first | exact Zai | refine Zad rfl ?_)) (List.Sublist.refl _))
 obtain ⟨i, v⟩ := s
 simp only at hs ⊢
 by_cases hlt : i < r.ties.length
 · have hkl := hf8 _ (List.getElem_mem hlt)
   (repeat' (first | refine Za8 ?_ | refine Za1 ?_ | refine Za6 ?_ | (apply Za9; (first | exact Za3 rfl | exact Za4 rfl | (apply Za7; first | exact Zb1 rfl rfl | exact Zab (k := 4) rfl rfl rfl rfl) | (apply Zat; first | exact Zaf rfl rfl rfl | exact Zay rfl rfl rfl) | (apply Zah; exact Zau rfl rfl) | (apply Zak; exact Zar rfl rfl rfl) | (apply Zax; exact Zb3 rfl rfl) | (apply g_build; exact WT_build2 rfl rfl (by repeat (first | exact PartsO.nil | (apply PartsO.cons; exact rfl; exact inferInstance; exact rfl; exact rfl))))); exact rfl) | refine Zaa ?_ | refine Zag ?_ | (apply Zaj; exact rfl; first | (apply Zbi; refine Zba ?_; intro _) | (apply Zav; refine Zal (k := 0) (l0 := []) rfl rfl rfl ?_)) | (refine Zac rfl (fun hb => ?_) (fun hb => ?_) <;> (repeat (first | replace hb := Zam hb | replace hb := Zan hb)) <;> (try (exfalso; omega)))))
   all_goals (try (exfalso; omega))
   rename_i b12
   refine Zbv (fun s : Nat × Value => ([(1, ex (.pointer (some ⟨b1, 0, none⟩))), (2, ex (.pointer (some ⟨b2, 0, none⟩))), (4, ex (.pointer (some ⟨b4, 0, none⟩))), (9, exB ((r.ties.take i).all r.tieOk && (r.ties[i].keys.take s.1).all (keyOk r.n0 r.n2 r.n3))), (10, ex (.pointer (some ⟨b10, 0, none⟩))), (11, exI .i64 (i : Int)), (12, ex (.pointer (some ⟨b12, 0, none⟩))), (13, exI .i64 (s.1 : Int))], vec s.2 42 3 s.1 (((r.ties[i].keys.take s.1).map (keyN r.n0 r.n2 r.n3)).flatMap keyV) :: row b12 40 2 [exT r.ties[i].name, ex s.2] :: vec v 40 2 i (((r.ties.take i).map r.tieN).flatMap tieV) :: row b10 28 9 [exT r.name, isl eCrit r.crits, isl eItem r.bonus, isl eItem r.malus, ex v, ex (.slice none 0 0), isl eI r.prizes, isl eI r.points, exI .i64 r.best] :: [row b4 107 4 (nmsV r.n0 r.n1 r.n2 r.n3), row b2 28 9 [ex (.string .empty), ex (.slice none 0 0), ex (.slice none 0 0), ex (.slice none 0 0), ex (.slice none 0 0), ex (.slice none 0 0), ex (.slice none 0 0), ex (.slice none 0 0), ex (.int .i64 0)], row b1 28 9 (rulesV k r)])) (fun s => s.1 ≤ r.ties[i].keys.length) (fun s => r.ties[i].keys.length - s.1) (0, .slice none 0 0) ?_ (Nat.zero_le _) fun s hq => ?_
   · simp only [List.take_zero, List.all_nil, Bool.and_true]
     exact Leads_nilv 42 3 (Zae (by repeat (first | exact Zai | refine Zad rfl ?_)) (List.Sublist.refl _))
   obtain ⟨q, v2⟩ := s
   simp only at hq ⊢
   by_cases hlq : q < r.ties[i].keys.length
   · (repeat' (first | (apply cut_at 29; refine Stop.out ?_) | refine Za8 ?_ | refine Za1 ?_ | refine Za6 ?_ | (apply Za9; (first | exact Za3 rfl | (apply Za7; first | exact Zb1 rfl rfl | exact Zab (k := 6) rfl rfl rfl rfl) | (apply Zat; first | exact Zaf rfl rfl rfl | exact Zay rfl rfl rfl) | (apply Zah; exact Zau rfl rfl) | (apply Zak; exact Zar rfl rfl rfl) | (apply Zax; exact Zb3 rfl rfl)); exact rfl) | refine Zaa ?_ | refine Zag ?_ | (refine Zac rfl (fun hb => ?_) (fun hb => ?_) <;> (repeat (first | replace hb := Zam hb | replace hb := Zan hb)) <;> (try (exfalso; omega)))))
     all_goals (try (exfalso; omega))
     refine ⟨WP_cutR 29 (fun b14 : Nat => ([(1, ex (.pointer (some ⟨b1, 0, none⟩))), (2, ex (.pointer (some ⟨b2, 0, none⟩))), (4, ex (.pointer (some ⟨b4, 0, none⟩))), (9, exB ((r.ties.take i).all r.tieOk && (r.ties[i].keys.take q).all (keyOk r.n0 r.n2 r.n3))), (10, ex (.pointer (some ⟨b10, 0, none⟩))), (11, exI .i64 (i : Int)), (12, ex (.pointer (some ⟨b12, 0, none⟩))), (13, exI .i64 (q : Int)), (14, ex (.pointer (some ⟨b14, 0, none⟩))), (15, exB (keyOk r.n0 r.n2 r.n3 r.ties[i].keys[q]))], row b14 42 3 (keyV (keyN r.n0 r.n2 r.n3 r.ties[i].keys[q])) :: vec v2 42 3 q (((r.ties[i].keys.take q).map (keyN r.n0 r.n2 r.n3)).flatMap keyV) :: row b12 40 2 [exT r.ties[i].name, ex v2] :: vec v 40 2 i (((r.ties.take i).map r.tieN).flatMap tieV) :: row b10 28 9 [exT r.name, isl eCrit r.crits, isl eItem r.bonus, isl eItem r.malus, ex v, ex (.slice none 0 0), isl eI r.prizes, isl eI r.points, exI .i64 r.best] :: [row b4 107 4 (nmsV r.n0 r.n1 r.n2 r.n3), row b2 28 9 [ex (.string .empty), ex (.slice none 0 0), ex (.slice none 0 0), ex (.slice none 0 0), ex (.slice none 0 0), ex (.slice none 0 0), ex (.slice none 0 0), ex (.slice none 0 0), ex (.int .i64 0)], row b1 28 9 (rulesV k r)])) (fun _ => True) ?_ fun b14 _ => ?_⟩
     · skip
       (refine Zbx 15 rfl ?_)
       (apply Zb0 0 rfl (by decide +kernel) rfl (by decide +kernel) (by repeat (exact Za5)) Za0; ((apply Za7; exact Zb6 (k := 4) rfl rfl rfl)); exact rfl)
       (apply Za2 1 rfl (by decide +kernel) rfl (by repeat (first | exact Za5)) Za0; (first | (apply Zat; first | exact Zaf rfl rfl rfl)); exact rfl)
       (apply Zb0 2 rfl (by decide +kernel) rfl (by decide +kernel) (by repeat (exact Za5)) Za0; ((apply Za7; exact Zab (k := 6) rfl rfl rfl rfl)); exact rfl)
       (apply Za2 3 rfl (by decide +kernel) rfl (by repeat (first | exact Za5)) Za0; (first | exact Za3 rfl); exact rfl)
       (apply Za2 4 rfl (by decide +kernel) rfl (by repeat (first | exact Za5)) Za0; (first | (apply Zak; first | exact Zar rfl rfl rfl)); exact rfl)
       (apply Za2 5 rfl (by decide +kernel) rfl (by repeat (first | exact Za5)) Za0; (first | (apply Zat; first | exact Zay rfl rfl rfl)); exact rfl)
       (apply Zb0 6 rfl (by decide +kernel) rfl (by decide +kernel) (by repeat (first | exact Za5)) Za0; (first | (apply Za7; first | exact Zb1 rfl rfl)); exact rfl)
       (apply Za2 7 rfl (by decide +kernel) rfl (by repeat (first | exact Za5)) Za0; (first | exact Za3 rfl); exact rfl)
       (apply Za2 8 rfl (by decide +kernel) rfl (by repeat (first | exact Za5)) Za0; (first | (apply Zak; first | exact Zar rfl rfl rfl)); exact rfl)
       (apply Zb0 9 rfl (by decide +kernel) rfl (by decide +kernel) (by repeat (first | exact Za5)) Za0; (first | (apply Za7; first | exact Zb2 rfl rfl)); exact rfl)
       (refine Zcg 10 14 (by decide +kernel) rfl Za0 (fun _ _ h => h) rfl Za0 (fun _ _ h => h) ?_ ?_)
       ·
         (first | (apply Zao; first | (refine Zaw Tryz.func68 rfl (r14key_any _ _ _ _ _) rfl ?_; rintro _ _ ⟨rfl, rfl⟩)))
         (apply Za2 11 rfl (by decide +kernel) rfl (by repeat (first | exact Za5)) Za0; (first | exact Za3 rfl); exact rfl)
         (apply Za2 12 rfl (by decide +kernel) rfl (by repeat (first | exact Za5)) Za0; (first | exact Zb5 rfl rfl); exact rfl)
         (apply Za2 13 rfl (by decide +kernel) rfl (by repeat (first | exact Za5)) Za0; (first | exact Zb5 rfl rfl); exact rfl)
         (refine Zap 14 (by decide +kernel) rfl Za0 (fun _ _ h => h) ?_)
         (first | (apply Zbi; refine Zba ?_; intro _))
         (refine Zap (H' := feet []) 15 (by decide +kernel) rfl Za0 (fun h => absurd h (by decide)) ?_)
         (first | (apply Zav; first | refine Zal (k := 0) (l0 := []) rfl rfl rfl ?_))
         (refine Zap (H' := fun _ => True) 16 (by decide +kernel) rfl Za0 (fun _ _ _ => trivial) ?_)
         ((apply WO_t (H := fun _ => True); (first | exact Za4 rfl); exact rfl))
         refine Zb9 (by decide +kernel) ?_
         exact Zbp _ trivial (Zae (by repeat (first | exact Zai | refine Zad rfl ?_)) (List.Sublist.refl _))
       ·
         (first | (apply Zbi; refine Zba ?_; intro _))
         (refine Zap 10 (by decide +kernel) rfl Za0 (fun _ _ h => h) ?_)
         (first | (apply Zao; first | (refine Zaw Tryz.func68 rfl (r14key_any _ _ _ _ _) rfl ?_; rintro _ _ ⟨rfl, rfl⟩)))
         (apply Za2 11 rfl (by decide +kernel) rfl (by repeat (first | exact Za5)) Za0; (first | exact Za3 rfl); exact rfl)
         (apply Za2 12 rfl (by decide +kernel) rfl (by repeat (first | exact Za5)) Za0; (first | exact Zb5 rfl rfl); exact rfl)
         (apply Za2 13 rfl (by decide +kernel) rfl (by repeat (first | exact Za5)) Za0; (first | exact Zb5 rfl rfl); exact rfl)
         (refine Zap (H' := feet []) 15 (by decide +kernel) rfl Za0 (fun h => absurd h (by decide)) ?_)
         (first | (apply Zav; first | refine Zal (k := 0) (l0 := []) rfl rfl rfl ?_))
         (refine Zap (H' := fun _ => True) 16 (by decide +kernel) rfl Za0 (fun _ _ _ => trivial) ?_)
         ((apply WO_t (H := fun _ => True); (first | exact Za4 rfl); exact rfl))
         refine Zb9 (by decide +kernel) ?_
         exact Zbp _ trivial (Zae (by repeat (first | exact Zai | refine Zad rfl ?_)) (List.Sublist.refl _))
     (repeat' (first | (apply at_store; refine WPL_vv (k := 2) rfl (by omega) ?_; intro _ _ hv; subst hv) | refine Za8 ?_ | refine Za1 ?_ | refine Za6 ?_ | (apply Za9; (first | exact Za3 rfl | exact Za4 rfl | exact Zas (b := true) rfl (fun _ => rfl) (fun e => by cases e) | exact Zas (b := false) rfl (fun e => by cases e) (fun _ => rfl) | (apply Za7; first | exact Zab (k := 2) rfl rfl rfl rfl | exact Zb6 (k := 0) rfl rfl rfl) | (apply Zat; exact Zaf rfl rfl rfl) | (apply Zah; exact Zbf rfl rfl)); exact rfl) | (refine Zbq rfl rfl rfl rfl rfl ?_) | (apply Zbt; exact rfl; exact rfl; exact rfl; (exact Za3 rfl); exact rfl) | (apply Zaj; exact rfl; first | (apply Zav; refine Zal (k := 3) (l0 := []) rfl rfl rfl ?_) | (apply Zcj; ((refine Zci (k := 2) (l0 := []) rfl rfl (by exact Src_rowW (k := 0) rfl rfl) rfl ?_)); intro _) | (apply Zcb; (refine Zce rfl rfl ?_); intro _)) | (refine Zbm rfl rfl (fun hb => ?_) (fun hb => ?_) <;> (repeat (fail)) <;> (try (exfalso; fail)))))
     all_goals (rename_i v3 c3; refine ⟨(q + 1, .slice (some ⟨v3, 0, none⟩) (q + 1) c3), by show q + 1 ≤ _; omega, by show r.ties[i].keys.length - (q + 1) < r.ties[i].keys.length - q; omega, ?_⟩)
     all_goals (rw [all_take_succ hlq, ← Bool.and_assoc, hb])
     all_goals (simp only [List.take_succ_eq_append_getElem hlq, List.map_append, List.map_cons, List.map_nil, List.flatMap_append, List.flatMap_cons, List.flatMap_nil, List.append_nil])
     all_goals exact Zbd 2 (by repeat (first | exact Zai | refine Zad rfl ?_)) rfl
   · have hk9 : q = r.ties[i].keys.length := by omega
     subst hk9
     rw [List.take_length]
     (repeat' (first | (apply Zbh 32; refine Stop.out ?_) | refine Za8 ?_ | refine Za1 ?_ | refine Za6 ?_ | (apply Za9; (first | exact Za3 rfl | (apply Za7; first | exact Zb1 rfl rfl | exact Zab (k := 6) rfl rfl rfl rfl) | (apply Zat; first | exact Zaf rfl rfl rfl | exact Zay rfl rfl rfl) | (apply Zah; exact Zau rfl rfl) | (apply Zak; exact Zar rfl rfl rfl) | (apply Zax; exact Zb3 rfl rfl)); exact rfl) | refine Zbk ?_ | (refine Zac rfl (fun hb => ?_) (fun hb => ?_) <;> (repeat (first | replace hb := Zam hb | replace hb := Zan hb)) <;> (try (exfalso; omega)))))
     all_goals (try (exfalso; omega))
     constructor
     apply Zbn
     · exact Leads_fcell (j := 0) (k := 0) (i := 1) (E := eKey) (r.ties[i].keys.map (keyN r.n0 r.n2 r.n3)) rfl rfl rfl (by simp) rfl rfl (hby := by show _ * 32 ≤ _; omega)
     (repeat' (first | (apply at_store; refine WPL_vv (k := 2) rfl (by omega) ?_; intro _ _ hv; subst hv) | refine Za1 ?_ | refine Za6 ?_ | (apply Za9; (first | exact Za3 rfl | exact Za4 rfl | (apply Za7; first | exact Zab (k := 2) rfl rfl rfl rfl | exact Zb6 (k := 0) rfl rfl rfl) | (apply Zat; exact Zaf rfl rfl rfl) | (apply Zah; exact Zbf rfl rfl)); exact rfl) | (apply Zaj; exact rfl; first | (apply Zav; refine Zal (k := 3) (l0 := []) rfl rfl rfl ?_) | (apply Zcj; ((refine Zci (k := 2) (l0 := []) rfl rfl (by exact Src_rowW (k := 0) rfl rfl) rfl ?_)); intro _) | (apply Zcb; (refine Zce rfl rfl ?_); intro _))))
     rename_i v3 c3
     refine ⟨(i + 1, .slice (some ⟨v3, 0, none⟩) (i + 1) c3), by show i + 1 ≤ _; omega, by show r.ties.length - (i + 1) < r.ties.length - i; omega, ?_⟩
     rw [all_take_succ hlt]
     simp only [List.take_succ_eq_append_getElem hlt, List.map_append, List.map_cons, List.map_nil, List.flatMap_append, List.flatMap_cons, List.flatMap_nil, List.append_nil]
     exact Zbd 2 (by repeat (first | exact Zai | refine Zad rfl ?_)) rfl
 · have hk9 : i = r.ties.length := by omega
   subst hk9
   rw [List.take_length]
   (repeat' (first | (apply cuts_at 33; refine Stop.out ?_) | refine Za8 ?_ | refine Za1 ?_ | refine Za6 ?_ | (apply Za9; (first | exact Za3 rfl | (apply Za7; exact Zab (k := 4) rfl rfl rfl rfl) | (apply Zat; exact Zaf rfl rfl rfl) | (apply Zah; exact Zau rfl rfl) | (apply Zax; exact Zb3 rfl rfl)); exact rfl) | refine Zbk ?_ | (refine Zac rfl (fun hb => ?_) (fun hb => ?_) <;> (repeat (first | replace hb := Zam hb | replace hb := Zan hb)) <;> (try (exfalso; omega)))))
   all_goals (try (exfalso; omega))
   constructor
   apply Zbn
   · exact Leads_fcell (j := 0) (k := 0) (i := 4) (E := eTie) (r.ties.map r.tieN) rfl rfl rfl (by simp) rfl rfl (hby := by show _ * 40 ≤ _; omega)
   (repeat' (first | refine Za8 ?_ | refine Za1 ?_ | refine Za6 ?_ | (apply Za9; (first | exact Za4 rfl); exact rfl) | refine Zaa ?_))
   refine Zbv (fun s : Nat × Value => ([(1, ex (.pointer (some ⟨b1, 0, none⟩))), (2, ex (.pointer (some ⟨b2, 0, none⟩))), (4, ex (.pointer (some ⟨b4, 0, none⟩))), (9, exB (r.ties.all r.tieOk && (r.rounds.take s.1).all r.roundOk)), (10, ex (.pointer (some ⟨b10, 0, none⟩))), (16, exI .i64 (s.1 : Int))], vec s.2 48 13 s.1 (((r.rounds.take s.1).map r.roundN).flatMap (roundV k)) :: row b10 28 9 [exT r.name, isl eCrit r.crits, isl eItem r.bonus, isl eItem r.malus, isl eTie (r.ties.map r.tieN), ex s.2, isl eI r.prizes, isl eI r.points, exI .i64 r.best] :: [row b4 107 4 (nmsV r.n0 r.n1 r.n2 r.n3), row b2 28 9 [ex (.string .empty), ex (.slice none 0 0), ex (.slice none 0 0), ex (.slice none 0 0), ex (.slice none 0 0), ex (.slice none 0 0), ex (.slice none 0 0), ex (.slice none 0 0), ex (.int .i64 0)], row b1 28 9 (rulesV k r)])) (fun s => s.1 ≤ r.rounds.length) (fun s => r.rounds.length - s.1) (0, .slice none 0 0) ?_ (Nat.zero_le _) fun s hs => ?_
   · simp only [List.take_zero, List.all_nil, Bool.and_true]
     exact Leads_nilv 48 13 (Zae (by repeat (first | exact Zai | refine Zad rfl ?_)) (List.Sublist.refl _))
   obtain ⟨i, v⟩ := s
   simp only at hs ⊢
   by_cases hlt : i < r.rounds.length
   · have hexp := r14expr_any r.n0 r.n1 r.n2 r.n3 k r.rounds[i].score
     have eO : (r.ties.all r.tieOk && (r.rounds.take (i + 1)).all r.roundOk) = ((r.ties.all r.tieOk && (r.rounds.take i).all r.roundOk) && (r.rounds[i].score.ok r.n0 r.n3 && (decide (r.rounds[i].tie = []) || decide (0 ≤ indexF r.n2 r.rounds[i].tie)))) := by
       rw [all_take_succ hlt, ← Bool.and_assoc]; rfl
     generalize (r.ties.all r.tieOk && (r.rounds.take i).all r.roundOk) = ob at eO ⊢
     generalize r.rounds[i].score.ok r.n0 r.n3 = sb at eO hexp
     by_cases ht : r.rounds[i].tie = []
     · rw [decide_eq_true ht, Bool.true_or] at eO
       cases ob <;> cases sb
       · (repeat' (first | (apply Zbh 44; refine Stop.out ?_) | refine Za8 ?_ | refine Za1 ?_ | refine Za6 ?_ | (apply Za9; (first | exact Za3 rfl | exact Za4 rfl | exact Zas (b := false) rfl (fun e => by cases e) (fun _ => rfl) | exact Zb5 rfl rfl | (apply Za7; first | exact Zab (k := 1) rfl rfl rfl rfl | exact Zab (k := 4) rfl rfl rfl rfl | exact Zb2 rfl rfl | exact Zb6 (k := 0) rfl rfl rfl | exact Zb6 (k := 3) rfl rfl rfl) | (apply Zat; exact Zaf rfl rfl rfl) | (apply Zah; first | exact WT_tne rfl rfl | exact Zau rfl rfl) | (apply Zak; first | exact Zar rfl rfl rfl | exact Zc5 rfl rfl rfl) | (apply Zax; exact Zb3 rfl rfl)); exact rfl) | (refine Zbq rfl rfl rfl rfl rfl ?_) | refine Zaa ?_ | refine Zag ?_ | (apply Zaj; exact rfl; first | (apply Zao; first | (refine Zaw Tryz.func69 rfl hexp rfl ?_; rintro _ _ ⟨rfl, rfl⟩) | (refine Zaw Tryz.func67 rfl (r14index_any _ _) rfl ?_; rintro _ _ ⟨rfl, rfl⟩)) | (apply Zbi; refine Zba ?_; intro _) | (apply Zav; first | refine Zal (k := 0) (l0 := []) rfl rfl rfl ?_ | refine Zal (k := 1) (l0 := []) rfl rfl rfl ?_)) | (refine Zac rfl (fun hb => ?_) (fun hb => ?_) <;> (repeat (first | replace hb := Zam hb | replace hb := Zan hb | replace hb := Zbr hb | replace hb := Zbs hb)) <;> (try (exfalso; omega)))))
         all_goals (try (exfalso; omega))
         all_goals (try contradiction)
         rename_i b17 b18
         constructor
         refine Zbn (env' := [(1, ex (.pointer (some ⟨b1, 0, none⟩))), (2, ex (.pointer (some ⟨b2, 0, none⟩))), (4, ex (.pointer (some ⟨b4, 0, none⟩))), (9, exB (false && (false && true))), (10, ex (.pointer (some ⟨b10, 0, none⟩))), (16, exI .i64 (i : Int)), (17, ex (.pointer (some ⟨b17, 0, none⟩)))]) (loc' := row b17 48 13 (roundV k (r.roundN r.rounds[i])) :: vec v 48 13 i (((r.rounds.take i).map r.roundN).flatMap (roundV k)) :: row b10 28 9 [exT r.name, isl eCrit r.crits, isl eItem r.bonus, isl eItem r.malus, isl eTie (r.ties.map r.tieN), ex v, isl eI r.prizes, isl eI r.points, exI .i64 r.best] :: [row b4 107 4 (nmsV r.n0 r.n1 r.n2 r.n3), row b2 28 9 [ex (.string .empty), ex (.slice none 0 0), ex (.slice none 0 0), ex (.slice none 0 0), ex (.slice none 0 0), ex (.slice none 0 0), ex (.slice none 0 0), ex (.slice none 0 0), ex (.int .i64 0)], row b1 28 9 (rulesV k r)]) ?_ ?_
         · unfold RulesD.roundN
           rw [Ex.res_l]
           simp only [if_pos ht]
           exact Zbd 1 (by repeat (first | exact Zai | refine Zad rfl ?_)) rfl
         (repeat' (first | (apply at_store; refine WPL_vv (k := 2) rfl (by omega) ?_; intro _ _ hv; subst hv) | refine Za1 ?_ | refine Za6 ?_ | (apply Za9; (first | exact Za3 rfl | exact Za4 rfl | (apply Za7; first | exact Zab (k := 2) rfl rfl rfl rfl | exact Zb6 (k := 0) rfl rfl rfl) | (apply Zat; exact Zaf rfl rfl rfl) | (apply Zah; exact Zbf rfl rfl)); exact rfl) | (apply Zaj; exact rfl; first | (apply Zav; refine Zal (k := 3) (l0 := []) rfl rfl rfl ?_) | (apply Zcj; ((refine Zci (k := 2) (l0 := []) rfl rfl (by exact Src_rowW (k := 0) rfl rfl) rfl ?_)); intro _) | (apply Zcb; (refine Zce rfl rfl ?_); intro _))))
         rename_i v3 c3
         refine ⟨(i + 1, .slice (some ⟨v3, 0, none⟩) (i + 1) c3), by show i + 1 ≤ _; omega, by show r.rounds.length - (i + 1) < r.rounds.length - i; omega, ?_⟩
         rw [eO]
         simp only [List.take_succ_eq_append_getElem hlt, List.map_append, List.map_cons, List.map_nil, List.flatMap_append, List.flatMap_cons, List.flatMap_nil, List.append_nil]
         exact Zbd 2 (by repeat (first | exact Zai | refine Zad rfl ?_)) rfl
       · (repeat' (first | (apply Zbh 44; refine Stop.out ?_) | refine Za8 ?_ | refine Za1 ?_ | refine Za6 ?_ | (apply Za9; (first | exact Za3 rfl | exact Za4 rfl | exact Zas (b := false) rfl (fun e => by cases e) (fun _ => rfl) | exact Zb5 rfl rfl | (apply Za7; first | exact Zab (k := 1) rfl rfl rfl rfl | exact Zab (k := 4) rfl rfl rfl rfl | exact Zb2 rfl rfl | exact Zb6 (k := 0) rfl rfl rfl | exact Zb6 (k := 3) rfl rfl rfl) | (apply Zat; exact Zaf rfl rfl rfl) | (apply Zah; first | exact WT_tne rfl rfl | exact Zau rfl rfl) | (apply Zak; first | exact Zar rfl rfl rfl | exact Zc5 rfl rfl rfl) | (apply Zax; exact Zb3 rfl rfl)); exact rfl) | (refine Zbq rfl rfl rfl rfl rfl ?_) | refine Zaa ?_ | refine Zag ?_ | (apply Zaj; exact rfl; first | (apply Zao; first | (refine Zaw Tryz.func69 rfl hexp rfl ?_; rintro _ _ ⟨rfl, rfl⟩) | (refine Zaw Tryz.func67 rfl (r14index_any _ _) rfl ?_; rintro _ _ ⟨rfl, rfl⟩)) | (apply Zbi; refine Zba ?_; intro _) | (apply Zav; first | refine Zal (k := 0) (l0 := []) rfl rfl rfl ?_ | refine Zal (k := 1) (l0 := []) rfl rfl rfl ?_)) | (refine Zac rfl (fun hb => ?_) (fun hb => ?_) <;> (repeat (first | replace hb := Zam hb | replace hb := Zan hb | replace hb := Zbr hb | replace hb := Zbs hb)) <;> (try (exfalso; omega)))))
         all_goals (try (exfalso; omega))
         all_goals (try contradiction)
         rename_i b17 b18
         constructor
         refine Zbn (env' := [(1, ex (.pointer (some ⟨b1, 0, none⟩))), (2, ex (.pointer (some ⟨b2, 0, none⟩))), (4, ex (.pointer (some ⟨b4, 0, none⟩))), (9, exB (false && (true && true))), (10, ex (.pointer (some ⟨b10, 0, none⟩))), (16, exI .i64 (i : Int)), (17, ex (.pointer (some ⟨b17, 0, none⟩)))]) (loc' := row b17 48 13 (roundV k (r.roundN r.rounds[i])) :: vec v 48 13 i (((r.rounds.take i).map r.roundN).flatMap (roundV k)) :: row b10 28 9 [exT r.name, isl eCrit r.crits, isl eItem r.bonus, isl eItem r.malus, isl eTie (r.ties.map r.tieN), ex v, isl eI r.prizes, isl eI r.points, exI .i64 r.best] :: [row b4 107 4 (nmsV r.n0 r.n1 r.n2 r.n3), row b2 28 9 [ex (.string .empty), ex (.slice none 0 0), ex (.slice none 0 0), ex (.slice none 0 0), ex (.slice none 0 0), ex (.slice none 0 0), ex (.slice none 0 0), ex (.slice none 0 0), ex (.int .i64 0)], row b1 28 9 (rulesV k r)]) ?_ ?_
         · unfold RulesD.roundN
           rw [Ex.res_l]
           simp only [if_pos ht]
           exact Zbd 1 (by repeat (first | exact Zai | refine Zad rfl ?_)) rfl
         (repeat' (first | (apply at_store; refine WPL_vv (k := 2) rfl (by omega) ?_; intro _ _ hv; subst hv) | refine Za1 ?_ | refine Za6 ?_ | (apply Za9; (first | exact Za3 rfl | exact Za4 rfl | (apply Za7; first | exact Zab (k := 2) rfl rfl rfl rfl | exact Zb6 (k := 0) rfl rfl rfl) | (apply Zat; exact Zaf rfl rfl rfl) | (apply Zah; exact Zbf rfl rfl)); exact rfl) | (apply Zaj; exact rfl; first | (apply Zav; refine Zal (k := 3) (l0 := []) rfl rfl rfl ?_) | (apply Zcj; ((refine Zci (k := 2) (l0 := []) rfl rfl (by exact Src_rowW (k := 0) rfl rfl) rfl ?_)); intro _) | (apply Zcb; (refine Zce rfl rfl ?_); intro _))))
         rename_i v3 c3
         refine ⟨(i + 1, .slice (some ⟨v3, 0, none⟩) (i + 1) c3), by show i + 1 ≤ _; omega, by show r.rounds.length - (i + 1) < r.rounds.length - i; omega, ?_⟩
         rw [eO]
         simp only [List.take_succ_eq_append_getElem hlt, List.map_append, List.map_cons, List.map_nil, List.flatMap_append, List.flatMap_cons, List.flatMap_nil, List.append_nil]
         exact Zbd 2 (by repeat (first | exact Zai | refine Zad rfl ?_)) rfl
       · (repeat' (first | (apply Zbh 44; refine Stop.out ?_) | refine Za8 ?_ | refine Za1 ?_ | refine Za6 ?_ | (apply Za9; (first | exact Za3 rfl | exact Za4 rfl | exact Zas (b := true) rfl (fun _ => rfl) (fun e => by cases e) | exact Zas (b := false) rfl (fun e => by cases e) (fun _ => rfl) | exact Zb5 rfl rfl | (apply Za7; first | exact Zab (k := 1) rfl rfl rfl rfl | exact Zab (k := 4) rfl rfl rfl rfl | exact Zb2 rfl rfl | exact Zb6 (k := 0) rfl rfl rfl | exact Zb6 (k := 3) rfl rfl rfl) | (apply Zat; exact Zaf rfl rfl rfl) | (apply Zah; first | exact WT_tne rfl rfl | exact Zau rfl rfl) | (apply Zak; first | exact Zar rfl rfl rfl | exact Zc5 rfl rfl rfl) | (apply Zax; exact Zb3 rfl rfl)); exact rfl) | (refine Zbq rfl rfl rfl rfl rfl ?_) | (apply Zbt; exact rfl; exact rfl; exact rfl; (exact Za3 rfl); exact rfl) | refine Zaa ?_ | refine Zag ?_ | (apply Zaj; exact rfl; first | (apply Zao; first | (refine Zaw Tryz.func69 rfl hexp rfl ?_; rintro _ _ ⟨rfl, rfl⟩) | (refine Zaw Tryz.func67 rfl (r14index_any _ _) rfl ?_; rintro _ _ ⟨rfl, rfl⟩)) | (apply Zbi; refine Zba ?_; intro _) | (apply Zav; first | refine Zal (k := 0) (l0 := []) rfl rfl rfl ?_ | refine Zal (k := 1) (l0 := []) rfl rfl rfl ?_)) | (refine Zac rfl (fun hb => ?_) (fun hb => ?_) <;> (repeat (first | replace hb := Zam hb | replace hb := Zan hb | replace hb := Zbr hb | replace hb := Zbs hb)) <;> (try (exfalso; omega)))))
         all_goals (try (exfalso; omega))
         all_goals (try contradiction)
         rename_i b17 b18
         constructor
         refine Zbn (env' := [(1, ex (.pointer (some ⟨b1, 0, none⟩))), (2, ex (.pointer (some ⟨b2, 0, none⟩))), (4, ex (.pointer (some ⟨b4, 0, none⟩))), (9, exB (true && (false && true))), (10, ex (.pointer (some ⟨b10, 0, none⟩))), (16, exI .i64 (i : Int)), (17, ex (.pointer (some ⟨b17, 0, none⟩)))]) (loc' := row b17 48 13 (roundV k (r.roundN r.rounds[i])) :: vec v 48 13 i (((r.rounds.take i).map r.roundN).flatMap (roundV k)) :: row b10 28 9 [exT r.name, isl eCrit r.crits, isl eItem r.bonus, isl eItem r.malus, isl eTie (r.ties.map r.tieN), ex v, isl eI r.prizes, isl eI r.points, exI .i64 r.best] :: [row b4 107 4 (nmsV r.n0 r.n1 r.n2 r.n3), row b2 28 9 [ex (.string .empty), ex (.slice none 0 0), ex (.slice none 0 0), ex (.slice none 0 0), ex (.slice none 0 0), ex (.slice none 0 0), ex (.slice none 0 0), ex (.slice none 0 0), ex (.int .i64 0)], row b1 28 9 (rulesV k r)]) ?_ ?_
         · unfold RulesD.roundN
           rw [Ex.res_l]
           simp only [if_pos ht]
           exact Zbd 1 (by repeat (first | exact Zai | refine Zad rfl ?_)) rfl
         (repeat' (first | (apply at_store; refine WPL_vv (k := 2) rfl (by omega) ?_; intro _ _ hv; subst hv) | refine Za1 ?_ | refine Za6 ?_ | (apply Za9; (first | exact Za3 rfl | exact Za4 rfl | (apply Za7; first | exact Zab (k := 2) rfl rfl rfl rfl | exact Zb6 (k := 0) rfl rfl rfl) | (apply Zat; exact Zaf rfl rfl rfl) | (apply Zah; exact Zbf rfl rfl)); exact rfl) | (apply Zaj; exact rfl; first | (apply Zav; refine Zal (k := 3) (l0 := []) rfl rfl rfl ?_) | (apply Zcj; ((refine Zci (k := 2) (l0 := []) rfl rfl (by exact Src_rowW (k := 0) rfl rfl) rfl ?_)); intro _) | (apply Zcb; (refine Zce rfl rfl ?_); intro _))))
         rename_i v3 c3
         refine ⟨(i + 1, .slice (some ⟨v3, 0, none⟩) (i + 1) c3), by show i + 1 ≤ _; omega, by show r.rounds.length - (i + 1) < r.rounds.length - i; omega, ?_⟩
         rw [eO]
         simp only [List.take_succ_eq_append_getElem hlt, List.map_append, List.map_cons, List.map_nil, List.flatMap_append, List.flatMap_cons, List.flatMap_nil, List.append_nil]
         exact Zbd 2 (by repeat (first | exact Zai | refine Zad rfl ?_)) rfl
       · (repeat' (first | (apply Zbh 44; refine Stop.out ?_) | refine Za8 ?_ | refine Za1 ?_ | refine Za6 ?_ | (apply Za9; (first | exact Za3 rfl | exact Za4 rfl | exact Zas (b := true) rfl (fun _ => rfl) (fun e => by cases e) | exact Zb5 rfl rfl | (apply Za7; first | exact Zab (k := 1) rfl rfl rfl rfl | exact Zab (k := 4) rfl rfl rfl rfl | exact Zb2 rfl rfl | exact Zb6 (k := 0) rfl rfl rfl | exact Zb6 (k := 3) rfl rfl rfl) | (apply Zat; exact Zaf rfl rfl rfl) | (apply Zah; first | exact WT_tne rfl rfl | exact Zau rfl rfl) | (apply Zak; first | exact Zar rfl rfl rfl | exact Zc5 rfl rfl rfl) | (apply Zax; exact Zb3 rfl rfl)); exact rfl) | (apply Zbt; exact rfl; exact rfl; exact rfl; (first | exact Za3 rfl | (apply Za7; exact Zab (k := 1) rfl rfl rfl rfl) | (apply Zat; exact Zaf rfl rfl rfl) | (apply Zah; exact Zcp rfl rfl)); exact rfl) | refine Zaa ?_ | refine Zag ?_ | (apply Zaj; exact rfl; first | (apply Zao; first | (refine Zaw Tryz.func69 rfl hexp rfl ?_; rintro _ _ ⟨rfl, rfl⟩) | (refine Zaw Tryz.func67 rfl (r14index_any _ _) rfl ?_; rintro _ _ ⟨rfl, rfl⟩)) | (apply Zbi; refine Zba ?_; intro _) | (apply Zav; first | refine Zal (k := 0) (l0 := []) rfl rfl rfl ?_ | refine Zal (k := 1) (l0 := []) rfl rfl rfl ?_)) | (refine Zac rfl (fun hb => ?_) (fun hb => ?_) <;> (repeat (first | replace hb := Zam hb | replace hb := Zan hb | replace hb := Zbr hb | replace hb := Zbs hb)) <;> (try (exfalso; omega)))))
         all_goals (try (exfalso; omega))
         all_goals (try contradiction)
         rename_i b17 b18
         constructor
         refine Zbn (env' := [(1, ex (.pointer (some ⟨b1, 0, none⟩))), (2, ex (.pointer (some ⟨b2, 0, none⟩))), (4, ex (.pointer (some ⟨b4, 0, none⟩))), (9, exB (true && (true && true))), (10, ex (.pointer (some ⟨b10, 0, none⟩))), (16, exI .i64 (i : Int)), (17, ex (.pointer (some ⟨b17, 0, none⟩)))]) (loc' := row b17 48 13 (roundV k (r.roundN r.rounds[i])) :: vec v 48 13 i (((r.rounds.take i).map r.roundN).flatMap (roundV k)) :: row b10 28 9 [exT r.name, isl eCrit r.crits, isl eItem r.bonus, isl eItem r.malus, isl eTie (r.ties.map r.tieN), ex v, isl eI r.prizes, isl eI r.points, exI .i64 r.best] :: [row b4 107 4 (nmsV r.n0 r.n1 r.n2 r.n3), row b2 28 9 [ex (.string .empty), ex (.slice none 0 0), ex (.slice none 0 0), ex (.slice none 0 0), ex (.slice none 0 0), ex (.slice none 0 0), ex (.slice none 0 0), ex (.slice none 0 0), ex (.int .i64 0)], row b1 28 9 (rulesV k r)]) ?_ ?_
         · unfold RulesD.roundN
           rw [Ex.res_l]
           simp only [if_pos ht]
           exact Zbd 1 (by repeat (first | exact Zai | refine Zad rfl ?_)) rfl
         (repeat' (first | (apply at_store; refine WPL_vv (k := 2) rfl (by omega) ?_; intro _ _ hv; subst hv) | refine Za1 ?_ | refine Za6 ?_ | (apply Za9; (first | exact Za3 rfl | exact Za4 rfl | (apply Za7; first | exact Zab (k := 2) rfl rfl rfl rfl | exact Zb6 (k := 0) rfl rfl rfl) | (apply Zat; exact Zaf rfl rfl rfl) | (apply Zah; exact Zbf rfl rfl)); exact rfl) | (apply Zaj; exact rfl; first | (apply Zav; refine Zal (k := 3) (l0 := []) rfl rfl rfl ?_) | (apply Zcj; ((refine Zci (k := 2) (l0 := []) rfl rfl (by exact Src_rowW (k := 0) rfl rfl) rfl ?_)); intro _) | (apply Zcb; (refine Zce rfl rfl ?_); intro _))))
         rename_i v3 c3
         refine ⟨(i + 1, .slice (some ⟨v3, 0, none⟩) (i + 1) c3), by show i + 1 ≤ _; omega, by show r.rounds.length - (i + 1) < r.rounds.length - i; omega, ?_⟩
         rw [eO]
         simp only [List.take_succ_eq_append_getElem hlt, List.map_append, List.map_cons, List.map_nil, List.flatMap_append, List.flatMap_cons, List.flatMap_nil, List.append_nil]
         exact Zbd 2 (by repeat (first | exact Zai | refine Zad rfl ?_)) rfl
     · rw [decide_eq_false ht, Bool.false_or] at eO
       cases ob <;> cases sb
       · (repeat' (first | (apply Zbh 44; refine Stop.out ?_) | refine Za8 ?_ | refine Za1 ?_ | refine Za6 ?_ | (apply Za9; (first | exact Za3 rfl | exact Za4 rfl | exact Zas (b := false) rfl (fun e => by cases e) (fun _ => rfl) | exact Zb5 rfl rfl | (apply Za7; first | exact Zab (k := 1) rfl rfl rfl rfl | exact Zab (k := 4) rfl rfl rfl rfl | exact Zb2 rfl rfl | exact Zb6 (k := 0) rfl rfl rfl | exact Zb6 (k := 3) rfl rfl rfl) | (apply Zat; exact Zaf rfl rfl rfl) | (apply Zah; first | exact WT_tne rfl rfl | exact Zau rfl rfl) | (apply Zak; first | exact Zar rfl rfl rfl | exact Zc5 rfl rfl rfl) | (apply Zax; exact Zb3 rfl rfl)); exact rfl) | (refine Zbq rfl rfl rfl rfl rfl ?_) | refine Zaa ?_ | refine Zag ?_ | (apply Zaj; exact rfl; first | (apply Zao; first | (refine Zaw Tryz.func69 rfl hexp rfl ?_; rintro _ _ ⟨rfl, rfl⟩) | (refine Zaw Tryz.func67 rfl (r14index_any _ _) rfl ?_; rintro _ _ ⟨rfl, rfl⟩)) | (apply Zbi; refine Zba ?_; intro _) | (apply Zav; first | refine Zal (k := 0) (l0 := []) rfl rfl rfl ?_ | refine Zal (k := 1) (l0 := []) rfl rfl rfl ?_)) | (refine Zac rfl (fun hb => ?_) (fun hb => ?_) <;> (repeat (first | replace hb := Zam hb | replace hb := Zan hb | replace hb := Zbr hb | replace hb := Zbs hb)) <;> (try (exfalso; omega)))))
         all_goals (try (exfalso; omega))
         all_goals (try contradiction)
         rename_i b17 b18
         constructor
         refine Zbn (env' := [(1, ex (.pointer (some ⟨b1, 0, none⟩))), (2, ex (.pointer (some ⟨b2, 0, none⟩))), (4, ex (.pointer (some ⟨b4, 0, none⟩))), (9, exB (false && (false && decide (0 ≤ indexF r.n2 r.rounds[i].tie)))), (10, ex (.pointer (some ⟨b10, 0, none⟩))), (16, exI .i64 (i : Int)), (17, ex (.pointer (some ⟨b17, 0, none⟩)))]) (loc' := row b17 48 13 (roundV k (r.roundN r.rounds[i])) :: vec v 48 13 i (((r.rounds.take i).map r.roundN).flatMap (roundV k)) :: row b10 28 9 [exT r.name, isl eCrit r.crits, isl eItem r.bonus, isl eItem r.malus, isl eTie (r.ties.map r.tieN), ex v, isl eI r.prizes, isl eI r.points, exI .i64 r.best] :: [row b4 107 4 (nmsV r.n0 r.n1 r.n2 r.n3), row b2 28 9 [ex (.string .empty), ex (.slice none 0 0), ex (.slice none 0 0), ex (.slice none 0 0), ex (.slice none 0 0), ex (.slice none 0 0), ex (.slice none 0 0), ex (.slice none 0 0), ex (.int .i64 0)], row b1 28 9 (rulesV k r)]) ?_ ?_
         · unfold RulesD.roundN
           rw [Ex.res_l]
           simp only [if_neg ht]
           exact Zbd 1 (by repeat (first | exact Zai | refine Zad rfl ?_)) rfl
         (repeat' (first | (apply at_store; refine WPL_vv (k := 2) rfl (by omega) ?_; intro _ _ hv; subst hv) | refine Za1 ?_ | refine Za6 ?_ | (apply Za9; (first | exact Za3 rfl | exact Za4 rfl | (apply Za7; first | exact Zab (k := 2) rfl rfl rfl rfl | exact Zb6 (k := 0) rfl rfl rfl) | (apply Zat; exact Zaf rfl rfl rfl) | (apply Zah; exact Zbf rfl rfl)); exact rfl) | (apply Zaj; exact rfl; first | (apply Zav; refine Zal (k := 3) (l0 := []) rfl rfl rfl ?_) | (apply Zcj; ((refine Zci (k := 2) (l0 := []) rfl rfl (by exact Src_rowW (k := 0) rfl rfl) rfl ?_)); intro _) | (apply Zcb; (refine Zce rfl rfl ?_); intro _))))
         rename_i v3 c3
         refine ⟨(i + 1, .slice (some ⟨v3, 0, none⟩) (i + 1) c3), by show i + 1 ≤ _; omega, by show r.rounds.length - (i + 1) < r.rounds.length - i; omega, ?_⟩
         rw [eO]
         simp only [List.take_succ_eq_append_getElem hlt, List.map_append, List.map_cons, List.map_nil, List.flatMap_append, List.flatMap_cons, List.flatMap_nil, List.append_nil]
         exact Zbd 2 (by repeat (first | exact Zai | refine Zad rfl ?_)) rfl
       · (repeat' (first | (apply Zbh 44; refine Stop.out ?_) | refine Za8 ?_ | refine Za1 ?_ | refine Za6 ?_ | (apply Za9; (first | exact Za3 rfl | exact Za4 rfl | exact Zas (b := false) rfl (fun e => by cases e) (fun _ => rfl) | exact Zb5 rfl rfl | (apply Za7; first | exact Zab (k := 1) rfl rfl rfl rfl | exact Zab (k := 4) rfl rfl rfl rfl | exact Zb2 rfl rfl | exact Zb6 (k := 0) rfl rfl rfl | exact Zb6 (k := 3) rfl rfl rfl) | (apply Zat; exact Zaf rfl rfl rfl) | (apply Zah; first | exact WT_tne rfl rfl | exact Zau rfl rfl) | (apply Zak; first | exact Zar rfl rfl rfl | exact Zc5 rfl rfl rfl) | (apply Zax; exact Zb3 rfl rfl)); exact rfl) | (refine Zbq rfl rfl rfl rfl rfl ?_) | refine Zaa ?_ | refine Zag ?_ | (apply Zaj; exact rfl; first | (apply Zao; first | (refine Zaw Tryz.func69 rfl hexp rfl ?_; rintro _ _ ⟨rfl, rfl⟩) | (refine Zaw Tryz.func67 rfl (r14index_any _ _) rfl ?_; rintro _ _ ⟨rfl, rfl⟩)) | (apply Zbi; refine Zba ?_; intro _) | (apply Zav; first | refine Zal (k := 0) (l0 := []) rfl rfl rfl ?_ | refine Zal (k := 1) (l0 := []) rfl rfl rfl ?_)) | (refine Zac rfl (fun hb => ?_) (fun hb => ?_) <;> (repeat (first | replace hb := Zam hb | replace hb := Zan hb | replace hb := Zbr hb | replace hb := Zbs hb)) <;> (try (exfalso; omega)))))
         all_goals (try (exfalso; omega))
         all_goals (try contradiction)
         rename_i b17 b18
         constructor
         refine Zbn (env' := [(1, ex (.pointer (some ⟨b1, 0, none⟩))), (2, ex (.pointer (some ⟨b2, 0, none⟩))), (4, ex (.pointer (some ⟨b4, 0, none⟩))), (9, exB (false && (true && decide (0 ≤ indexF r.n2 r.rounds[i].tie)))), (10, ex (.pointer (some ⟨b10, 0, none⟩))), (16, exI .i64 (i : Int)), (17, ex (.pointer (some ⟨b17, 0, none⟩)))]) (loc' := row b17 48 13 (roundV k (r.roundN r.rounds[i])) :: vec v 48 13 i (((r.rounds.take i).map r.roundN).flatMap (roundV k)) :: row b10 28 9 [exT r.name, isl eCrit r.crits, isl eItem r.bonus, isl eItem r.malus, isl eTie (r.ties.map r.tieN), ex v, isl eI r.prizes, isl eI r.points, exI .i64 r.best] :: [row b4 107 4 (nmsV r.n0 r.n1 r.n2 r.n3), row b2 28 9 [ex (.string .empty), ex (.slice none 0 0), ex (.slice none 0 0), ex (.slice none 0 0), ex (.slice none 0 0), ex (.slice none 0 0), ex (.slice none 0 0), ex (.slice none 0 0), ex (.int .i64 0)], row b1 28 9 (rulesV k r)]) ?_ ?_
         · unfold RulesD.roundN
           rw [Ex.res_l]
           simp only [if_neg ht]
           exact Zbd 1 (by repeat (first | exact Zai | refine Zad rfl ?_)) rfl
         (repeat' (first | (apply at_store; refine WPL_vv (k := 2) rfl (by omega) ?_; intro _ _ hv; subst hv) | refine Za1 ?_ | refine Za6 ?_ | (apply Za9; (first | exact Za3 rfl | exact Za4 rfl | (apply Za7; first | exact Zab (k := 2) rfl rfl rfl rfl | exact Zb6 (k := 0) rfl rfl rfl) | (apply Zat; exact Zaf rfl rfl rfl) | (apply Zah; exact Zbf rfl rfl)); exact rfl) | (apply Zaj; exact rfl; first | (apply Zav; refine Zal (k := 3) (l0 := []) rfl rfl rfl ?_) | (apply Zcj; ((refine Zci (k := 2) (l0 := []) rfl rfl (by exact Src_rowW (k := 0) rfl rfl) rfl ?_)); intro _) | (apply Zcb; (refine Zce rfl rfl ?_); intro _))))
         rename_i v3 c3
         refine ⟨(i + 1, .slice (some ⟨v3, 0, none⟩) (i + 1) c3), by show i + 1 ≤ _; omega, by show r.rounds.length - (i + 1) < r.rounds.length - i; omega, ?_⟩
         rw [eO]
         simp only [List.take_succ_eq_append_getElem hlt, List.map_append, List.map_cons, List.map_nil, List.flatMap_append, List.flatMap_cons, List.flatMap_nil, List.append_nil]
         exact Zbd 2 (by repeat (first | exact Zai | refine Zad rfl ?_)) rfl
       · (repeat' (first | (apply Zbh 44; refine Stop.out ?_) | refine Za8 ?_ | refine Za1 ?_ | refine Za6 ?_ | (apply Za9; (first | exact Za3 rfl | exact Za4 rfl | exact Zas (b := true) rfl (fun _ => rfl) (fun e => by cases e) | exact Zas (b := false) rfl (fun e => by cases e) (fun _ => rfl) | exact Zb5 rfl rfl | (apply Za7; first | exact Zab (k := 1) rfl rfl rfl rfl | exact Zab (k := 4) rfl rfl rfl rfl | exact Zb2 rfl rfl | exact Zb6 (k := 0) rfl rfl rfl | exact Zb6 (k := 3) rfl rfl rfl) | (apply Zat; exact Zaf rfl rfl rfl) | (apply Zah; first | exact WT_tne rfl rfl | exact Zau rfl rfl) | (apply Zak; first | exact Zar rfl rfl rfl | exact Zc5 rfl rfl rfl) | (apply Zax; exact Zb3 rfl rfl)); exact rfl) | (refine Zbq rfl rfl rfl rfl rfl ?_) | (apply Zbt; exact rfl; exact rfl; exact rfl; (exact Za3 rfl); exact rfl) | refine Zaa ?_ | refine Zag ?_ | (apply Zaj; exact rfl; first | (apply Zao; first | (refine Zaw Tryz.func69 rfl hexp rfl ?_; rintro _ _ ⟨rfl, rfl⟩) | (refine Zaw Tryz.func67 rfl (r14index_any _ _) rfl ?_; rintro _ _ ⟨rfl, rfl⟩)) | (apply Zbi; refine Zba ?_; intro _) | (apply Zav; first | refine Zal (k := 0) (l0 := []) rfl rfl rfl ?_ | refine Zal (k := 1) (l0 := []) rfl rfl rfl ?_)) | (refine Zac rfl (fun hb => ?_) (fun hb => ?_) <;> (repeat (first | replace hb := Zam hb | replace hb := Zan hb | replace hb := Zbr hb | replace hb := Zbs hb)) <;> (try (exfalso; omega)))))
         all_goals (try (exfalso; omega))
         all_goals (try contradiction)
         rename_i b17 b18
         constructor
         refine Zbn (env' := [(1, ex (.pointer (some ⟨b1, 0, none⟩))), (2, ex (.pointer (some ⟨b2, 0, none⟩))), (4, ex (.pointer (some ⟨b4, 0, none⟩))), (9, exB (true && (false && decide (0 ≤ indexF r.n2 r.rounds[i].tie)))), (10, ex (.pointer (some ⟨b10, 0, none⟩))), (16, exI .i64 (i : Int)), (17, ex (.pointer (some ⟨b17, 0, none⟩)))]) (loc' := row b17 48 13 (roundV k (r.roundN r.rounds[i])) :: vec v 48 13 i (((r.rounds.take i).map r.roundN).flatMap (roundV k)) :: row b10 28 9 [exT r.name, isl eCrit r.crits, isl eItem r.bonus, isl eItem r.malus, isl eTie (r.ties.map r.tieN), ex v, isl eI r.prizes, isl eI r.points, exI .i64 r.best] :: [row b4 107 4 (nmsV r.n0 r.n1 r.n2 r.n3), row b2 28 9 [ex (.string .empty), ex (.slice none 0 0), ex (.slice none 0 0), ex (.slice none 0 0), ex (.slice none 0 0), ex (.slice none 0 0), ex (.slice none 0 0), ex (.slice none 0 0), ex (.int .i64 0)], row b1 28 9 (rulesV k r)]) ?_ ?_
         · unfold RulesD.roundN
           rw [Ex.res_l]
           simp only [if_neg ht]
           exact Zbd 1 (by repeat (first | exact Zai | refine Zad rfl ?_)) rfl
         (repeat' (first | (apply at_store; refine WPL_vv (k := 2) rfl (by omega) ?_; intro _ _ hv; subst hv) | refine Za1 ?_ | refine Za6 ?_ | (apply Za9; (first | exact Za3 rfl | exact Za4 rfl | (apply Za7; first | exact Zab (k := 2) rfl rfl rfl rfl | exact Zb6 (k := 0) rfl rfl rfl) | (apply Zat; exact Zaf rfl rfl rfl) | (apply Zah; exact Zbf rfl rfl)); exact rfl) | (apply Zaj; exact rfl; first | (apply Zav; refine Zal (k := 3) (l0 := []) rfl rfl rfl ?_) | (apply Zcj; ((refine Zci (k := 2) (l0 := []) rfl rfl (by exact Src_rowW (k := 0) rfl rfl) rfl ?_)); intro _) | (apply Zcb; (refine Zce rfl rfl ?_); intro _))))
         rename_i v3 c3
         refine ⟨(i + 1, .slice (some ⟨v3, 0, none⟩) (i + 1) c3), by show i + 1 ≤ _; omega, by show r.rounds.length - (i + 1) < r.rounds.length - i; omega, ?_⟩
         rw [eO]
         simp only [List.take_succ_eq_append_getElem hlt, List.map_append, List.map_cons, List.map_nil, List.flatMap_append, List.flatMap_cons, List.flatMap_nil, List.append_nil]
         exact Zbd 2 (by repeat (first | exact Zai | refine Zad rfl ?_)) rfl
       · (repeat' (first | (apply Zbh 44; refine Stop.out ?_) | refine Za8 ?_ | refine Za1 ?_ | refine Za6 ?_ | (apply Za9; (first | exact Za3 rfl | exact Za4 rfl | exact Zas (b := true) rfl (fun _ => rfl) (fun e => by cases e) | exact Zb5 rfl rfl | (apply Za7; first | exact Zab (k := 1) rfl rfl rfl rfl | exact Zab (k := 4) rfl rfl rfl rfl | exact Zb2 rfl rfl | exact Zb6 (k := 0) rfl rfl rfl | exact Zb6 (k := 3) rfl rfl rfl) | (apply Zat; exact Zaf rfl rfl rfl) | (apply Zah; first | exact WT_tne rfl rfl | exact Zau rfl rfl) | (apply Zak; first | exact Zar rfl rfl rfl | exact Zc5 rfl rfl rfl) | (apply Zax; exact Zb3 rfl rfl)); exact rfl) | (apply Zbt; exact rfl; exact rfl; exact rfl; (first | exact Za3 rfl | (apply Za7; exact Zab (k := 1) rfl rfl rfl rfl) | (apply Zat; exact Zaf rfl rfl rfl) | (apply Zah; exact Zcp rfl rfl)); exact rfl) | refine Zaa ?_ | refine Zag ?_ | (apply Zaj; exact rfl; first | (apply Zao; first | (refine Zaw Tryz.func69 rfl hexp rfl ?_; rintro _ _ ⟨rfl, rfl⟩) | (refine Zaw Tryz.func67 rfl (r14index_any _ _) rfl ?_; rintro _ _ ⟨rfl, rfl⟩)) | (apply Zbi; refine Zba ?_; intro _) | (apply Zav; first | refine Zal (k := 0) (l0 := []) rfl rfl rfl ?_ | refine Zal (k := 1) (l0 := []) rfl rfl rfl ?_)) | (refine Zac rfl (fun hb => ?_) (fun hb => ?_) <;> (repeat (first | replace hb := Zam hb | replace hb := Zan hb | replace hb := Zbr hb | replace hb := Zbs hb)) <;> (try (exfalso; omega)))))
         all_goals (try (exfalso; omega))
         all_goals (try contradiction)
         rename_i b17 b18
         constructor
         refine Zbn (env' := [(1, ex (.pointer (some ⟨b1, 0, none⟩))), (2, ex (.pointer (some ⟨b2, 0, none⟩))), (4, ex (.pointer (some ⟨b4, 0, none⟩))), (9, exB (true && (true && decide (0 ≤ indexF r.n2 r.rounds[i].tie)))), (10, ex (.pointer (some ⟨b10, 0, none⟩))), (16, exI .i64 (i : Int)), (17, ex (.pointer (some ⟨b17, 0, none⟩)))]) (loc' := row b17 48 13 (roundV k (r.roundN r.rounds[i])) :: vec v 48 13 i (((r.rounds.take i).map r.roundN).flatMap (roundV k)) :: row b10 28 9 [exT r.name, isl eCrit r.crits, isl eItem r.bonus, isl eItem r.malus, isl eTie (r.ties.map r.tieN), ex v, isl eI r.prizes, isl eI r.points, exI .i64 r.best] :: [row b4 107 4 (nmsV r.n0 r.n1 r.n2 r.n3), row b2 28 9 [ex (.string .empty), ex (.slice none 0 0), ex (.slice none 0 0), ex (.slice none 0 0), ex (.slice none 0 0), ex (.slice none 0 0), ex (.slice none 0 0), ex (.slice none 0 0), ex (.int .i64 0)], row b1 28 9 (rulesV k r)]) ?_ ?_
         · unfold RulesD.roundN
           rw [Ex.res_l]
           simp only [if_neg ht]
           exact Zbd 1 (by repeat (first | exact Zai | refine Zad rfl ?_)) rfl
         (repeat' (first | (apply at_store; refine WPL_vv (k := 2) rfl (by omega) ?_; intro _ _ hv; subst hv) | refine Za1 ?_ | refine Za6 ?_ | (apply Za9; (first | exact Za3 rfl | exact Za4 rfl | (apply Za7; first | exact Zab (k := 2) rfl rfl rfl rfl | exact Zb6 (k := 0) rfl rfl rfl) | (apply Zat; exact Zaf rfl rfl rfl) | (apply Zah; exact Zbf rfl rfl)); exact rfl) | (apply Zaj; exact rfl; first | (apply Zav; refine Zal (k := 3) (l0 := []) rfl rfl rfl ?_) | (apply Zcj; ((refine Zci (k := 2) (l0 := []) rfl rfl (by exact Src_rowW (k := 0) rfl rfl) rfl ?_)); intro _) | (apply Zcb; (refine Zce rfl rfl ?_); intro _))))
         rename_i v3 c3
         refine ⟨(i + 1, .slice (some ⟨v3, 0, none⟩) (i + 1) c3), by show i + 1 ≤ _; omega, by show r.rounds.length - (i + 1) < r.rounds.length - i; omega, ?_⟩
         rw [eO]
         simp only [List.take_succ_eq_append_getElem hlt, List.map_append, List.map_cons, List.map_nil, List.flatMap_append, List.flatMap_cons, List.flatMap_nil, List.append_nil]
         exact Zbd 2 (by repeat (first | exact Zai | refine Zad rfl ?_)) rfl
   · have hk9 : i = r.rounds.length := by omega
     subst hk9
     rw [List.take_length]
     have eA : (r.ties.all r.tieOk && r.rounds.all r.roundOk) = r.allOk := rfl
     rw [eA]
     cases hA : r.allOk
     · (repeat' (first | refine Za8 ?_ | refine Za1 ?_ | refine Za6 ?_ | (apply Za9; (first | exact Za3 rfl | exact Za4 rfl | (apply Za7; exact Zab (k := 4) rfl rfl rfl rfl) | (apply Zat; exact Zaf rfl rfl rfl) | (apply Zah; exact Zau rfl rfl) | (apply Zax; exact Zb3 rfl rfl) | (apply g_un; exact Zbg rfl) | (apply g_build; exact WT_build2 rfl rfl (by repeat (exact PartsO.nil)))); exact rfl) | refine Zaq ?_ | refine Zbk ?_ | refine Zb4 rfl ?_ | (apply Zaj; exact rfl; (apply Zav; refine Zal (k := 3) (l0 := []) rfl rfl rfl ?_)) | (refine Zac rfl (fun hb => ?_) (fun hb => ?_) <;> (repeat (first | replace hb := Zam hb | replace hb := Zan hb)) <;> (try (exfalso; omega)))))
       all_goals (try (exfalso; omega))
       (refine ⟨.inr rfl, retw (loc' := []) (by first | exact ret2 rfl (.cella (k := 3) rfl rfl rfl rfl inferInstance rfl) (.tmp rfl) (List.nil_sublist _) ⟨rfl, rfl⟩) ?_ ⟨rfl, rfl⟩⟩)
       exact Ims.tup (.cons (im_zero' k) (.cons (.refl _) .nil))
     · (repeat' (first | (apply cut_at 47; refine Stop.out ?_) | refine Za8 ?_ | refine Za1 ?_ | refine Za6 ?_ | (apply Za9; (first | exact Za3 rfl | (apply Za7; exact Zab (k := 4) rfl rfl rfl rfl) | (apply Zat; exact Zaf rfl rfl rfl) | (apply Zah; exact Zau rfl rfl) | (apply Zax; exact Zb3 rfl rfl) | (apply g_un; exact Zbg rfl)); exact rfl) | refine Zag ?_ | refine Zbk ?_ | refine Zb8 rfl ?_ | (refine Zac rfl (fun hb => ?_) (fun hb => ?_) <;> (repeat (first | replace hb := Zam hb | replace hb := Zan hb)) <;> (try (exfalso; omega)))))
       all_goals (try (exfalso; omega))
       constructor
       apply Zbn
       · exact Leads_fcell (j := 0) (k := 0) (i := 5) (E := eRound k) (r.rounds.map r.roundN) rfl rfl rfl (by simp) rfl rfl (hby := by show _ * 136 ≤ _; omega)
       (repeat' (first | refine Za8 ?_ | refine Za1 ?_ | refine Za6 ?_ | (apply Za9; (first | exact Za4 rfl | (apply Za7; exact Zb6 (k := 0) rfl rfl rfl)); exact rfl) | refine Zaq ?_ | (apply Zaj; exact rfl; (apply Zav; refine Zal (k := 2) (l0 := []) rfl rfl rfl ?_))))
       (refine ⟨.inr rfl, retw (loc' := []) (by first | exact ret2 rfl (.cella (k := 2) rfl rfl rfl rfl inferInstance rfl) (.tmp rfl) (List.nil_sublist _) ⟨rfl, rfl⟩) ?_ ⟨rfl, rfl⟩⟩)
       exact Im.refl _
end Go.Proofs.YthldagplhklbnaaGreatDoor
namespace Go.Proofs.YthldagplhklbnaaGreatDoor
open Go Go.RowKit Go.Kx Go.Fr
set_option maxHeartbeats 1000000 in
set_option maxRecDepth 100000 in
theorem r14check_any (k : Nat) (r : RulesD) (hf : r.few = true) : FnC Tryz.prog 14 [rul k r] [] (fun p loc => p = exI .i64 (r.check freeF) ∧ loc = []) := by
 have hres := r14resolve_any k r hf
 generalize hx : (r.resolve freeF).1 = x at hres
 generalize he : (r.resolve freeF).2 = e at hres
 unfold RulesD.check
 rw [hx, he]
 refine Zb7 Tryz.func14 rfl Tryz.ntmps14 rfl fun w0 F0 out => ?_
 by_cases h0 : e = 0
 · rw [if_neg (by simpa using h0)]
   by_cases hs : x = r
   · rw [if_pos hs]
     (repeat' (first | refine Za8 ?_ | refine Za1 ?_ | refine Za6 ?_ | (apply Za9; (first | exact Za3 rfl | exact Za4 rfl | exact Zb5 rfl rfl | (apply Za7; first | exact Zb6 (k := 0) rfl rfl rfl | exact Zb6 (k := 1) rfl rfl rfl) | (apply Zah; exact Zc3 rfl rfl) | (apply g_un; exact Zbg rfl)); exact rfl) | refine Zag ?_ | refine Zaq ?_ | (apply Zaj; exact rfl; first | (apply Zao; first | (refine Zaw Tryz.func30 rfl hres rfl ?_; rintro _ _ ⟨rfl, rfl⟩) | (refine Zaw Tryz.func31 rfl (same14_any _ _ _ _) rfl ?_; rintro _ _ ⟨rfl, rfl⟩)) | (apply Zc9; refine Zbz rfl ?_; intro _) | (apply Zbi; refine Zba ?_; intro _) | (apply Zav; refine Zal (k := 0) (l0 := []) rfl rfl rfl ?_)) | (refine Zac rfl (fun hb => ?_) (fun hb => ?_) <;> (repeat (first | replace hb := Zam hb | replace hb := Zan hb | replace hb := Zbr hb | replace hb := Zbs hb)) <;> (try (exfalso; omega)))))
     all_goals (try (exfalso; first | contradiction | omega))
     exact ⟨.inr rfl, ret1 rfl (.tmp rfl) (List.nil_sublist _) ⟨rfl, rfl⟩⟩
   · rw [if_neg hs]
     (repeat' (first | refine Za8 ?_ | refine Za1 ?_ | refine Za6 ?_ | (apply Za9; (first | exact Za3 rfl | exact Za4 rfl | exact Zb5 rfl rfl | (apply Za7; first | exact Zb6 (k := 0) rfl rfl rfl | exact Zb6 (k := 1) rfl rfl rfl) | (apply Zah; exact Zc3 rfl rfl) | (apply g_un; exact Zbg rfl)); exact rfl) | refine Zag ?_ | refine Zaq ?_ | (apply Zaj; exact rfl; first | (apply Zao; first | (refine Zaw Tryz.func30 rfl hres rfl ?_; rintro _ _ ⟨rfl, rfl⟩) | (refine Zaw Tryz.func31 rfl (same14_any _ _ _ _) rfl ?_; rintro _ _ ⟨rfl, rfl⟩)) | (apply Zc9; refine Zbz rfl ?_; intro _) | (apply Zbi; refine Zba ?_; intro _) | (apply Zav; refine Zal (k := 0) (l0 := []) rfl rfl rfl ?_)) | (refine Zac rfl (fun hb => ?_) (fun hb => ?_) <;> (repeat (first | replace hb := Zam hb | replace hb := Zan hb | replace hb := Zbr hb | replace hb := Zbs hb)) <;> (try (exfalso; omega)))))
     all_goals (try (exfalso; first | contradiction | omega))
     exact ⟨.inr rfl, ret1 rfl (.tmp rfl) (List.nil_sublist _) ⟨rfl, rfl⟩⟩
 · rw [if_pos h0]
   (repeat' (first | refine Za8 ?_ | refine Za1 ?_ | refine Za6 ?_ | (apply Za9; (first | exact Za3 rfl | exact Za4 rfl | exact Zb5 rfl rfl | (apply Za7; exact Zb6 (k := 0) rfl rfl rfl) | (apply Zah; exact Zc3 rfl rfl)); exact rfl) | refine Zaq ?_ | (apply Zaj; exact rfl; first | (apply Zao; (refine Zaw Tryz.func30 rfl hres rfl ?_; rintro _ _ ⟨rfl, rfl⟩)) | (apply Zc9; refine Zbz rfl ?_; intro _) | (apply Zbi; refine Zba ?_; intro _) | (apply Zav; refine Zal (k := 0) (l0 := []) rfl rfl rfl ?_)) | (refine Zac rfl (fun hb => ?_) (fun hb => ?_) <;> (repeat (first | replace hb := Zam hb | replace hb := Zan hb | replace hb := Zbr hb | replace hb := Zbs hb)) <;> (try (exfalso; omega)))))
   all_goals (try (exfalso; first | contradiction | omega))
   exact ⟨.inr rfl, ret1 rfl (.tmp rfl) (List.nil_sublist _) ⟨rfl, rfl⟩⟩
end Go.Proofs.YthldagplhklbnaaGreatDoor
namespace Go.Fr
open Go.RowKit Go.Kx
def clos (f : Fn) (ps : List SP) : SP where
 rel F w u := ∃ vs : List Value, u = .func f #[] vs.toArray ∧ CellsR F w ps vs
 mono := fun ⟨vs, h1, h2⟩ hk => ⟨vs, h1, h2.mono hk⟩
instance {f : Fn} {ps : List SP} : Sc (clos f ps) := ⟨by rintro F w v ⟨vs, rfl, _⟩; rfl⟩
inductive CapUp (env : Env) : List SP → List SP → Prop
 | nil : CapUp env [] []
 | keep {p : SP} {ps qs : List SP} (h : CapUp env ps qs) : CapUp env (p :: ps) (p :: qs)
 | slot {v : Value} {q : SP} {ps qs : List SP} (t : Nat) (ht : Fr.look t env = some q) (hq : ∀ F w u, q.rel F w u → u = v) (h : CapUp env ps qs) : CapUp env (ex v :: ps) (q :: qs)
section
variable {C : Cx} {S : (Nat → Prop) → World → World → Prop} {H : Nat → Prop} {l0 : List Ent} {env : Env} {loc : List Ent} {d : Nat} {dst : Option Tmp} {ty : TypeId} {pos : String} {af : Array Edge} {g : Option (Nat × Bool)} {K : Env → List Ent → Prop}
theorem CapUp.cells {F : Nat → Prop} {a : Act} {w : World} (hR : Rel C F env loc a w) : ∀ {ps qs : List SP} {vs : List Value}, CapUp env ps qs → CellsR F w ps vs → CellsR F w qs vs
 | _, _, vs, .nil, h => h
 | _, _, vs, .keep (p := p) (ps := ps) (qs := qs) k, h => by
   have hl : vs.length = ps.length + 1 := h.len
   match vs, hl with
   | v :: vs, hl =>
     obtain ⟨u, h1, h2⟩ := h.at_ 0 p rfl
     cases h1
     have ht : CellsR F w ps vs := ⟨by simpa using hl, fun i q hq => h.at_ (i + 1) q hq⟩
     exact .cons h2 (k.cells hR ht)
 | _, _, vs, .slot (v := v0) (q := q) (ps := ps) (qs := qs) t ht hq k, h => by
   have hl : vs.length = ps.length + 1 := h.len
   match vs, hl with
   | v :: vs, hl =>
     obtain ⟨u, h1, h2⟩ := h.at_ 0 (ex v0) rfl
     have hv : v = v0 := by
       have e : v = u := by simpa using h1
       rw [e]; exact h2
     have ht' : CellsR F w ps vs := ⟨by simpa using hl, fun i q hq => h.at_ (i + 1) q hq⟩
     have h3 := hR.env t q ht
     have h4 := hq _ _ _ h3
     rw [h4, ← hv] at h3
     exact .cons h3 (k.cells hR ht')
theorem g_mkfn {fn : Fn} {a b : Array Operand} {p : SP} (h : WT C S ⟨dst, .makeFunc fn a b, ty, pos, af, g⟩ p env loc) : WT C S ⟨dst, .makeFunc fn a b, ty, pos, af, g⟩ p env loc := h
theorem WT_mkclos {fn : Fn} {caps : Array Operand} {ps : List SP} (h : caps.toList.map (ev env) = ps.map some) : WT C S ⟨dst, .makeFunc fn #[] caps, ty, pos, af, g⟩ (clos fn ps) env loc := by
 constructor
 intro F a w hR
 refine ⟨.func fn #[] (caps.toList.map a.eval).toArray, ⟨_, rfl, call_cells hR h⟩, fun w' _ => ?_⟩
 have e : (caps.toList.map a.eval).toArray = caps.map a.eval := by
   apply Array.ext'
   simp
 rw [e]
 generalize a.eval = ρ
 simp [execOp, Instr.makeFunc, go_sem]
theorem WO_callC {f : FuncId} {fn : Func} {c : Code} {x : Operand} {ps caps : List SP} {xs : Array Operand} {ts : Array TypeId} {args : List SP} {inn rest : List Ent} {R : SP → List Ent → Prop} (hx : ev env x = some (clos (.func f) ps)) (hcap : CapUp env ps caps) (ht : Takes loc inn rest) (hf : C.P.funcs[f]? = some fn) (hbody : fn.body = some c) (hc : FnC C.P f (args ++ caps) inn R) (ha : xs.toList.map (ev env) = args.map some) (hk : ∀ p loc', R p loc' → K ((d, p) :: env) (loc' ++ rest)) (hname : (fn.name == "runtime.NumGoroutine") = false := by rfl) (hd : Nat.blt d C.N = true := by rfl) (hH : ∀ b, H b → ∀ e ∈ inn, b ∉ e.foot := by first | exact fun _ _ e he => absurd he (by simp) | exact fun _ h => absurd h (by rintro ⟨_, h, _⟩; cases h)) : WO C H ⟨some d, .call ⟨.value x, xs, ts⟩, ty, pos, af, g⟩ K env loc := by
 constructor
 intro F a w hR
 have hG0 := ht.good hR.good
 obtain ⟨vs, he, hv⟩ := Zbb hR hx
 have hcv : CellsR F w (args ++ caps) (xs.toList.map a.eval ++ vs) := (call_cells hR ha).app (hcap.cells hR hv)
 unfold Oper.wp
 rw [run_callv he hf hbody hname]
 refine (hc F w _ _ hG0 hcv).mono ?_
 rintro e2 w' ⟨v, F', p, loc', rfl, hRp, hp, hG, hch, hgr, hown⟩
 refine ⟨F', _, _, hR.calledG ht hp hG hch hgr hown hd, hch.size, hgr, fun b hb hF => hch.block b hb ?_, hk p loc' hRp⟩
 rintro ⟨e', he', h⟩
 rcases hF with hF | hF
 · exact (hG0.lt _ (List.mem_append_left _ he') b h).2 hF
 · exact hH b hF e' he' h
end
end Go.Fr
namespace Go.Fr
open Go.RowKit Go.Kx
class CalmC (Fe : Fence) : Prop where
 out : Calm Fe
instance : CalmC Fence.wide := ⟨.inl rfl⟩
instance {l : Nat} : CalmC (Fence.wide.inRound l) := ⟨.inr ⟨l, rfl⟩⟩
section
variable {C : Cx} {Fe : Fence} {n : Nat} {ops : Array Oper} {Q : Post} {env : Env} {loc : List Ent}
theorem WPC_seq {x y : Code} (h : WPC C Fe n x (thenP (fun env loc => WPC C Fe n y Q env loc) Q) env loc) : WPC C Fe n (.seq x y) Q env loc := by
 refine ⟨fun F a w hR => wpIn_seq (wpIn_mono (h.out F a w hR) ?_)⟩
 rintro e a' w' ⟨F', env', loc', hR', hq⟩
 cases e with
 | normal => exact hq.out F' a' w' hR'
 | _ => exact ⟨F', env', loc', hR', hq⟩
theorem WPC_skip (h : Q .normal env loc) : WPC C Fe n .skip Q env loc := ⟨fun F _ _ hR => wpIn_skip ⟨F, env, loc, hR, h⟩⟩
theorem WPC_ret (h : Q .ret env loc) : WPC C Fe n .ret Q env loc := ⟨fun F _ _ hR => wpIn_ret ⟨F, env, loc, hR, h⟩⟩
theorem WPC_blk {id : Nat} {c : Code} (h : WPC C Fe n c (inBlockP id Q) env loc) : WPC C Fe n (.block id c) Q env loc := by
 refine ⟨fun F a w hR => wpIn_block (wpIn_mono (h.out F a w hR) ?_)⟩
 rintro e a' w' ⟨F', env', loc', hR', hq⟩
 cases e with
 | exit k =>
   simp only [inBlockP] at hq
   simp only [Exit.inBlock]
   split at hq
   · rename_i hb
     rw [if_pos (Nat.eq_of_beq_eq_true hb)]; exact ⟨F', env', loc', hR', hq⟩
   · rename_i hb
     rw [if_neg (fun h => by subst h; rw [Nat.beq_refl] at hb; cases hb)]; exact ⟨F', env', loc', hR', hq⟩
 | _ => exact ⟨F', env', loc', hR', hq⟩
theorem WPC_cond {c : Operand} {x y : Code} {b : Bool} (hc : ev env c = some (exB b)) (ht : b = true → WPC C Fe n x Q env loc) (hf : b = false → WPC C Fe n y Q env loc) : WPC C Fe n (.cond c x y) Q env loc := by
 constructor
 intro F a w hR
 have hv : a.eval c = .bool b := Zbb hR hc
 refine wpIn_cond hv ?_
 cases b with
 | true => exact (ht rfl).out F a w hR
 | false => exact (hf rfl).out F a w hR
theorem WPC_cond_t {c : Operand} {x y : Code} (hc : ev env c = some (exB true)) (h : WPC C Fe n x Q env loc) : WPC C Fe n (.cond c x y) Q env loc := WPC_cond hc (fun _ => h) (fun e => by cases e)
theorem WPC_cond_f {c : Operand} {x y : Code} (hc : ev env c = some (exB false)) (h : WPC C Fe n y Q env loc) : WPC C Fe n (.cond c x y) Q env loc := WPC_cond hc (fun e => by cases e) (fun _ => h)
theorem WPI_on {H : Nat → Prop} {o : Oper} {rest : List Oper} {j d : Nat} {want : Bool} [hFe : CalmC Fe] (hdf : ∀ c, o.op ≠ .defer c) (hg : o.guard = some (j, want)) (hj : (ops[j]?).bind (·.dst) = some d) (hd : Nat.blt d C.N = true) (he : Fr.look d env = some (exB want))
   (h : WO C H o (fun env loc => WPI C Fe n ops Q rest env loc) env loc) : WPI C Fe n ops Q (o :: rest) env loc := by
 constructor
 intro F a w hR
 have hy := yielded_of hR hj (by simpa [Nat.blt_eq] using hd) he
 unfold wpListIn
 rw [if_pos (by simp [Region.wanted, hg, hy])]
 exact in_of_wp hFe.out hdf (upon_mono (fun a' w' ⟨F', env', loc', hR', _, _, _, hk⟩ => hk.out F' a' w' hR') (fun _ _ _ hf => hf) (h.out F a w hR))
theorem WPI_gt {d : Nat} {op : Op} {ty : TypeId} {pos : String} {af : Array Edge} {rest : List Oper} {p : SP} {j dj : Nat} {want : Bool} [hFe : CalmC Fe] (hj : (ops[j]?).bind (·.dst) = some dj) (hdj : Nat.blt dj C.N = true) (he : Fr.look dj env = some (exB want))
   (h : WT C (Hold fun _ => True) ⟨some d, op, ty, pos, af, some (j, want)⟩ p env loc) (hd : Nat.blt d C.N = true) (hk : WPI C Fe n ops Q rest ((d, p) :: env) loc) (hdf : ∀ c, op ≠ .defer c := by intro c h; cases h) : WPI C Fe n ops Q (⟨some d, op, ty, pos, af, some (j, want)⟩ :: rest) env loc :=
 WPI_on (H := fun _ => False) hdf rfl hj hdj he (WO_t h hd hk)
theorem WPI_op0 {o : Oper} {rest : List Oper} [hFe : CalmC Fe] (hg : o.guard = none) (h : WO C (feet []) o (fun env loc => WPI C Fe n ops Q rest env loc) env loc) (hdf : ∀ c, o.op ≠ .defer c := by intro c h; cases h) : WPI C Fe n ops Q (o :: rest) env loc := WPI_op hFe.out hdf hg h
theorem WPI_on0 {o : Oper} {rest : List Oper} {j d : Nat} {want : Bool} [hFe : CalmC Fe] (hg : o.guard = some (j, want)) (hj : (ops[j]?).bind (·.dst) = some d) (hd : Nat.blt d C.N = true) (he : Fr.look d env = some (exB want)) (h : WO C (feet []) o (fun env loc => WPI C Fe n ops Q rest env loc) env loc) (hdf : ∀ c, o.op ≠ .defer c := by intro c h; cases h) : WPI C Fe n ops Q (o :: rest) env loc := WPI_on hdf hg hj hd he h
theorem WPI_skipd {o : Oper} {rest : List Oper} {p : SP} {d' : Nat} [hFe : CalmC Fe] (hdst : o.dst = some d') (hw : ∀ F a w, Rel C F env loc a w → Region.wanted o (yielded ops a.tmps) = false) (hd' : Nat.blt d' C.N = true) (hp : p = ex undef) (h : WPI C Fe n ops Q rest ((d', p) :: env) loc) : WPI C Fe n ops Q (o :: rest) env loc := by
 constructor
 intro F a w hR
 unfold wpListIn
 rw [if_neg (by rw [hw F a w hR]; simp)]
 refine ⟨fun f _ => hFe.out.fn f, ?_⟩
 rw [hdst]
 subst hp
 exact h.out F _ w (hR.put hd' rfl)
theorem WPI_off {d' : Nat} {op : Op} {ty : TypeId} {pos : String} {af : Array Edge} {rest : List Oper} {j d : Nat} {b want : Bool} [hFe : CalmC Fe] (hj : (ops[j]?).bind (·.dst) = some d) (hd : Nat.blt d C.N = true) (he : Fr.look d env = some (exB b)) (hb : (b == want) = false)
   (hd' : Nat.blt d' C.N = true) (h : WPI C Fe n ops Q rest ((d', ex undef) :: env) loc) : WPI C Fe n ops Q (⟨some d', op, ty, pos, af, some (j, want)⟩ :: rest) env loc :=
 WPI_skipd rfl (fun F a w hR => by have hy := yielded_of hR hj (ne_of_blt hd) he; simp only [Region.wanted, hy]; simpa using hb) hd' rfl h
theorem WPI_offu {d' : Nat} {op : Op} {ty : TypeId} {pos : String} {af : Array Edge} {rest : List Oper} {j d : Nat} {want : Bool} [hFe : CalmC Fe] (hj : (ops[j]?).bind (·.dst) = some d) (hd : Nat.blt d C.N = true) (he : Fr.look d env = some (ex undef))
   (hd' : Nat.blt d' C.N = true) (h : WPI C Fe n ops Q rest ((d', ex undef) :: env) loc) : WPI C Fe n ops Q (⟨some d', op, ty, pos, af, some (j, want)⟩ :: rest) env loc :=
 WPI_skipd rfl (fun F a w hR => by have hy := yielded_undef hR hj (ne_of_blt hd) he; simp only [Region.wanted, hy]; simp) hd' rfl h
theorem WPI_case {d' : Option Tmp} {op : Op} {ty : TypeId} {pos : String} {af : Array Edge} {rest : List Oper} {j d : Nat} {b want : Bool} (hj : (ops[j]?).bind (·.dst) = some d) (he : Fr.look d env = some (exB b))
   (h1 : b = true → WPI C Fe n ops Q (⟨d', op, ty, pos, af, some (j, want)⟩ :: rest) ((d, exB true) :: env) loc) (h0 : b = false → WPI C Fe n ops Q (⟨d', op, ty, pos, af, some (j, want)⟩ :: rest) ((d, exB false) :: env) loc) : WPI C Fe n ops Q (⟨d', op, ty, pos, af, some (j, want)⟩ :: rest) env loc := by
 have key : ∀ b', b = b' → ∀ F a w, Rel C F env loc a w → Rel C F ((d, exB b') :: env) loc a w := fun b' hb F a w hR => ⟨hR.good, fun t p hp => by
   rw [look_cons] at hp
   split at hp
   · rename_i e; cases hp; subst e hb; exact hR.env _ _ he
   · exact hR.env t p hp, hR.size, hR.defers, hR.ch, hR.own, hR.grow⟩
 constructor
 intro F a w hR
 cases hb : b with
 | true => exact (h1 hb).out F a w (key _ hb F a w hR)
 | false => exact (h0 hb).out F a w (key _ hb F a w hR)
end
def YieldS (P : Program) (l : Nat) (args : List SP) (A : List Ent → Prop) (B : Bool → List Ent → Prop) : Prop := ∀ m F w vals inn out, A inn → Good F (inn ++ out) w → CellsR F w args vals →
 YieldAt Fence.wide m P l vals.toArray w (fun e w' => ∃ r, e = .returned (.bool r) ∧ ∃ F' loc', B r loc' ∧ Good F' (loc' ++ out) w' ∧ Ch (footX inn) w w' ∧ (∀ b, F b → b < w.heap.size → F' b) ∧ ∀ e ∈ loc', ∀ b ∈ e.foot, w.heap.size ≤ b ∨ footX inn b)
theorem YieldS.mono {P : Program} {l : Nat} {args : List SP} {A : List Ent → Prop} {B B' : Bool → List Ent → Prop} (h : YieldS P l args A B) (hb : ∀ r loc, B r loc → B' r loc) : YieldS P l args A B' := fun m F w vals inn out hA hG hc => by
 obtain ⟨fn, tmps, assign, body, hy, hr⟩ := h m F w vals inn out hA hG hc
 exact ⟨fn, tmps, assign, body, hy, hr.mono fun e w' ⟨r, he, F', loc', hB, hx⟩ => ⟨r, he, F', loc', hb r loc' hB, hx⟩⟩
theorem YieldS.args {P : Program} {l : Nat} {ps qs : List SP} {A : List Ent → Prop} {B : Bool → List Ent → Prop} (h : YieldS P l qs A B) (hi : Ims ps qs) : YieldS P l ps A B := fun m F w vals inn out hA hG hc => h m F w vals inn out hA hG (hi.cells hc)
theorem WPI_yieldS {C : Cx} {n l d : Nat} {ops : Array Oper} {Q : Post} {ty : TypeId} {pos : String} {af : Array Edge} {rest : List Oper} {env : Env} {loc inn l2 : List Ent} {x : Operand} {xs : Array Operand} {ts : Array TypeId} {args : List SP} {A : List Ent → Prop} {B : Bool → List Ent → Prop} (hx : ev env x = some (ex (.func (.yield l) #[] #[]))) (hc : YieldS C.P l args A B) (ha : xs.toList.map (ev env) = args.map some) (ht : Takes loc inn l2) (hA : A inn) (hk : ∀ r loc', B r loc' → WPI C Fence.wide n ops Q rest ((d, exB r) :: env) (loc' ++ l2)) (hd : Nat.blt d C.N = true := by rfl) : WPI C Fence.wide n ops Q (⟨some d, .call ⟨.value x, xs, ts⟩, ty, pos, af, none⟩ :: rest) env loc := by
 constructor
 intro F a w hR
 unfold wpListIn
 rw [if_pos (by simp [Region.wanted])]
 refine ⟨fun _ _ => trivial, ?_⟩
 rw [Oper.semAt_plain Fence.wide _ _ (fun c h => by cases h)]
 have hG0 := ht.good hR.good
 obtain ⟨fn, tmps, assign, body, hy, hr⟩ := hc (n - 1) F w _ inn (l2 ++ C.out) hA hG0 (call_cells hR ha)
 have hv : a.eval x = .func (.yield l) #[] #[] := Zbb hR hx
 have hrun : (execOp a.eval ⟨some d, .call ⟨.value x, xs, ts⟩, ty, pos, af, none⟩).run C.P w = .ok (.round l fn tmps assign body) w := by
   generalize a.eval = ρ at hv hy ⊢
   have e : (xs.toList.map ρ).toArray = xs.map ρ := by rw [← Array.toList_map]
   rw [e] at hy
   simp [execOp, resolve, invoke, go_sem, hv, hy]
 rw [hrun]
 refine ⟨by simp [Fence.wide], hr.mono ?_⟩
 rintro e w' ⟨r, rfl, F', loc', hB, hG, hch, hgr, hown⟩
 exact (hk r loc' hB).out F' _ w' (hR.calledG ht rfl hG hch hgr hown hd)
def GenS {α : Type} (P : Program) (g : FuncId) (lb : List SP) (encs : α → List SP) (xs : List α) : Prop := ∀ (l : Nat) (St Sp : List α → List Ent → Prop) (loc0 : List Ent), St [] loc0 →
 (∀ pre x, (pre ++ [x]) <+: xs → YieldS P l (encs x) (St pre) (fun r loc => (r = true ∧ St (pre ++ [x]) loc) ∨ (r = false ∧ Sp (pre ++ [x]) loc))) → FnC P g (ex (.func (.yield l) #[] #[]) :: lb) loc0 (fun _ loc' => St xs loc' ∨ ∃ pre, pre <+: xs ∧ Sp pre loc')
theorem WPR_rangeS {α : Type} {C : Cx} {id : Nat} {g : Operand} {ps : Array Tmp} {assign body : Code} {T : Exit → Act → World → Prop} {env : Env} {bl l2 : List Ent} {gf : FuncId} {fng : Func} {cg : Code} {lb : List SP} {encs : α → List SP} (xs : List α) (St Sp : List α → List Ent → Prop) (envA : α → Env → Env)
   (hg : ev env g = some (clo gf lb)) (hf : C.P.funcs[gf]? = some fng) (hbd : fng.body = some cg) (hname : (fng.name == "runtime.NumGoroutine") = false) (hgen : GenS C.P gf lb encs xs) (hps : ∀ x, (encs x).length = ps.size) (hN : ∀ t ∈ ps.toList, Nat.blt t C.N = true) (hS0 : St [] bl)
   (hround : ∀ (Cb : Cx) l m pre x inn, Cb.P = C.P → Cb.N = C.N → (pre ++ [x]) <+: xs → St pre inn → WPC Cb (Fence.wide.inRound l) m assign (fun e env1 loc1 => e = .normal ∧ env1 = envA x (putE env ps.toList (encs x)) ∧ loc1 = inn) (putE env ps.toList (encs x)) inn)
   (hbody : ∀ (Cb : Cx) l m pre x inn, Cb.P = C.P → Cb.N = C.N → (pre ++ [x]) <+: xs → St pre inn → WPC Cb (Fence.wide.inRound l) m body (fun e _ loc' => (e = .normal ∧ St (pre ++ [x]) loc') ∨ (e = .ret ∧ Sp (pre ++ [x]) loc')) (envA x (putE env ps.toList (encs x))) inn)
   (hrest : ∀ D bl', C.w0.heap.size ≤ D → St xs bl' → rawP (C.mark D) T .normal env (bl' ++ l2))
   (hstop : ∀ D pre bl', C.w0.heap.size ≤ D → pre <+: xs → Sp pre bl' → rawP (C.mark D) T .ret env (bl' ++ l2)) : WPR C (.block id (.rangeFunc g ps assign body)) T env (bl ++ l2) := by
 constructor
 intro F a w hR
 refine wp_block ((wpIn_wide (n := 5)).1 (wpIn_rangeFunc fun fn _ => ?_))
 obtain ⟨rec, hrec⟩ : ∃ rec : LoopState → Loop, rec = fun st => { state := st, pending := none, fn, tmps := a.tmps, params := ps, assign, body, defers := w.heap.size } := ⟨_, rfl⟩
 obtain ⟨recD, hrecD⟩ : ∃ recD : Loop, recD = { rec .ready with state := .done, pending := some .ret } := ⟨_, rfl⟩
 obtain ⟨vs, hgv, hlb⟩ : ∃ vs : List Value, a.eval g = .func (.func gf) #[] vs.toArray ∧ CellsR F w lb vs := Zbb hR hg
 have eg : ∀ args w, (callFunc gf args).run C.P w = .ok (.enter gf args) w := fun args w => by
   have h9 : ¬ fng.name = "runtime.NumGoroutine" := by simpa using hname
   simp [callFunc, hf, hbd, h9, go_sem]
 obtain ⟨Wm, hWm⟩ : ∃ Wm, w.alloc (.deferred (some [])) = Wm := ⟨_, rfl⟩
 obtain ⟨W1, hW1⟩ : ∃ W1, Wm.alloc (.loop (rec .ready)) = W1 := ⟨_, rfl⟩
 have sm : Wm.heap.size = w.heap.size + 1 := by rw [← hWm]; simp
 have s1 : W1.heap.size = w.heap.size + 1 + 1 := by rw [← hW1]; simp [sm]
 -- what is readable as the loop begins: no more than lies there
 have hG0 : Good (fun k => F k ∧ k < w.heap.size) ((bl ++ l2) ++ C.out) w := hR.good.weak
 have hG1 : Good (fun k => F k ∧ k < w.heap.size) (markE w.heap.size :: ((bl ++ l2) ++ C.out)) Wm := by
   rw [← hWm]; exact hG0.lay (fun _ h => h.2) rfl (by show (w.alloc _).heap[w.heap.size]? = _; exact World.alloc_heap_new w _)
 have hk1 : ∀ b, b < w.heap.size → W1.heap[b]? = w.heap[b]? := fun b hb => by
   rw [← hW1, Below.heap_alloc _ _ _ (by omega), ← hWm, Below.heap_alloc _ _ _ hb]
 have hG2 : Good (fun k => F k ∧ k < w.heap.size) (loopE (w.heap.size + 1) (rec .ready) (fun k => F k ∧ k < w.heap.size) w :: markE w.heap.size :: ((bl ++ l2) ++ C.out)) W1 := by
   have h := hG1.lay (e := loopE (w.heap.size + 1) (rec .ready) (fun k => F k ∧ k < w.heap.size) w) (o := .loop (rec .ready)) (fun _ h => by omega) (by rw [sm]; rfl) ⟨by rw [← sm]; exact World.alloc_heap_new Wm _, fun b hb hl => ⟨hb, by rw [hW1]; exact hk1 b hl⟩⟩
   rw [hW1] at h; exact h
 have hcall := hgen (w.heap.size + 1) (fun pre inn => ∃ b0, inn = loopE (w.heap.size + 1) (rec .ready) (fun k => F k ∧ k < w.heap.size) w :: b0 ∧ St pre b0) (fun pre inn => ∃ b0, inn = loopE (w.heap.size + 1) recD (fun k => F k ∧ k < w.heap.size) w :: b0 ∧ Sp pre b0) (loopE (w.heap.size + 1) (rec .ready) (fun k => F k ∧ k < w.heap.size) w :: bl) ⟨bl, rfl, hS0⟩ ?_
   (fun k => F k ∧ k < w.heap.size) W1 (.func (.yield (w.heap.size + 1)) #[] #[] :: vs) (markE w.heap.size :: (l2 ++ C.out)) (hG2.perm ?_) (.cons rfl (hlb.mono fun b hb hl => ⟨⟨hb, hl⟩, hk1 b hl⟩))
 · refine ⟨w.heap.size + 1, [{ target := .collected w.heap.size, args := #[] }], W1, { target := .fn (.func gf) vs.toArray, args := #[.func (.yield (w.heap.size + 1)) #[] #[]] }, W1, gf, #[.func (.yield (w.heap.size + 1)) #[] #[]] ++ vs.toArray, W1, ?_, ?_, fun _ _ => trivial, ?_, by simp [Fence.wide], ?_⟩
   · rw [← hW1, ← hWm, hrec]; exact run_enterLoop_outer _ _ _ _ _
   · simp only [resolve, hgv]
     simp [go_sem]
   · simp [invoke, go_sem, eg]
   · have e1 : (#[.func (.yield (w.heap.size + 1)) #[] #[]] ++ vs.toArray : Array Value) = (.func (.yield (w.heap.size + 1)) #[] #[] :: vs).toArray := by simp
     rw [e1]
     refine callsIn_wide.2 (hcall.mono ?_)
     rintro e w3 ⟨v, F3, p, loc3, rfl, hSS, _, hG3, hch, hgr, hown⟩
     obtain ⟨recE, bl', jump, rfl, hjump, hS⟩ : ∃ recE bl' jump, loc3 = loopE (w.heap.size + 1) recE (fun k => F k ∧ k < w.heap.size) w :: bl' ∧ (recE.state ≠ .busy ∧ recE.pending = jump) ∧ ((jump = none ∧ St xs bl') ∨ (jump = some .ret ∧ ∃ pre, pre <+: xs ∧ Sp pre bl')) := by
       rcases hSS with ⟨bl', rfl, hS⟩ | ⟨pre, hpre, bl', rfl, hS⟩
       · exact ⟨rec .ready, bl', none, rfl, ⟨by rw [hrec]; simp, by rw [hrec]⟩, .inl ⟨rfl, hS⟩⟩
       · exact ⟨recD, bl', some .ret, rfl, ⟨by rw [hrecD]; simp, by rw [hrecD]⟩, .inr ⟨rfl, pre, hpre, hS⟩⟩
     have hl3 := (hG3.rel _ (List.mem_cons_self)).1
     obtain ⟨o4, hrun⟩ : ∃ o4, (Instr.endLoop (w.heap.size + 1)).run C.P w3 = .ok jump (w3.putObj (w.heap.size + 1) o4) := ⟨_, by have := run_endLoop (P := C.P) hl3 hjump.1; rw [hjump.2] at this; exact this⟩
     refine ⟨jump, _, hrun, ?_⟩
     -- behind the loop
     have hlt3 := hG3.lt _ List.mem_cons_self (w.heap.size + 1) (by simp [loopE])
     have hpw := List.pairwise_cons.1 hG3.disj
     have hoth : ∀ b, b ≠ w.heap.size + 1 → (w3.putObj (w.heap.size + 1) o4).heap[b]? = w3.heap[b]? := fun b hb => World.putObj_heap_other hb
     have hkeep : ∀ b, F3 b → b < w3.heap.size → F3 b ∧ (w3.putObj (w.heap.size + 1) o4).heap[b]? = w3.heap[b]? := fun b hb _ => ⟨hb, hoth b fun e' => hlt3.2 (e' ▸ hb)⟩
     have hG4 : Good F3 (bl' ++ (markE w.heap.size :: (l2 ++ C.out))) (w3.putObj (w.heap.size + 1) o4) := by
       refine ⟨fun x hx => x.mono (hG3.rel x (List.mem_cons_of_mem _ hx)) hkeep fun b hb => hoth b fun e' => hpw.1 x hx _ (by simp [loopE]) (e' ▸ hb), fun x hx b hb => ?_, hpw.2⟩
       rw [World.putObj_size]; exact hG3.lt x (List.mem_cons_of_mem _ hx) b hb
     have hDw : C.w0.heap.size ≤ w.heap.size := hR.ch.size
     have hRel : Rel (C.mark w.heap.size) F3 env (bl' ++ l2) { a with defers := [{ target := .collected w.heap.size, args := #[] }] ++ a.defers } (w3.putObj (w.heap.size + 1) o4) := ?rel
     · rcases hS with ⟨rfl, hS⟩ | ⟨rfl, pre, hpre, hS⟩
       · exact hrest w.heap.size bl' hDw hS F3 _ _ hRel
       · exact wpIn_ret (hstop w.heap.size pre bl' hDw hpre hS F3 _ _ hRel)
     refine ⟨?_, fun t p hp => p.mono (hR.env t p hp) fun b hb hl => ?_, hR.size, by show _ ++ a.defers = _; rw [hR.defers]; rfl, ?_, fun e he b hb => ?_, fun b hb hl => ?_⟩
     · refine hG4.perm ?_
       show (bl' ++ (markE w.heap.size :: (l2 ++ C.out))).Perm ((bl' ++ l2) ++ (markE w.heap.size :: C.out))
       rw [List.append_assoc]
       exact List.Perm.append_left _ (List.perm_middle.symm)
     · have h1 := hgr b ⟨hb, hl⟩ (by omega)
       refine ⟨h1, (hkeep b h1 ?_).2.trans ((hch.block b (by omega) ?_).trans (hk1 b hl))⟩
       · have := hch.size; omega
       · rintro ⟨e, he, hbe⟩
         rcases List.mem_cons.1 he with rfl | he
         · simp [loopE] at hbe; omega
         · exact (hR.good.lt e (List.mem_append_left _ (List.mem_append_left _ he)) b hbe).2 hb
     · have c1 : Ch C.X w W1 := ⟨by rw [← hW1, ← hWm]; rfl, by rw [← hW1, ← hWm]; rfl, by rw [← hW1, ← hWm]; rfl, by omega, fun k hk _ => hk1 k hk⟩
       refine ((hR.ch.trans c1 (fun _ _ h => h) fun _ _ h => h).trans hch (fun _ _ h => h) ?_).trans (Ch.put (X := fun b => b = w.heap.size + 1) rfl) (fun _ _ h => h) fun b hb e' => ?_
       · rintro b hb ⟨e, he, hbe⟩
         rcases List.mem_cons.1 he with rfl | he
         · simp [loopE] at hbe
           have hb' : b < C.w0.heap.size := hb
           omega
         · exact (hR.own e (List.mem_append_left _ he) b hbe).elim (fun h => absurd hb (by show ¬ b < C.w0.heap.size; omega)) (fun h => h)
       · have hb' : b < C.w0.heap.size := hb
         omega
     · rcases List.mem_append.1 he with he | he
       · rcases hown e (List.mem_cons_of_mem _ he) b hb with h | ⟨e', he', hbe⟩
         · exact .inl (by show C.w0.heap.size ≤ b; omega)
         · rcases List.mem_cons.1 he' with rfl | he'
           · simp [loopE] at hbe
             exact .inl (by show C.w0.heap.size ≤ b; omega)
           · exact hR.own e' (List.mem_append_left _ he') b hbe
       · exact hR.own e (List.mem_append_right _ he) b hb
     · have hl' : b < C.w0.heap.size := hl
       exact hgr b ⟨hR.grow b hb hl, by omega⟩ (by omega)
 · -- one round
   rintro pre x hpre m F1 W vals inn out1 ⟨b0, rfl, hS⟩ hG hcv
   obtain ⟨hl, hbase⟩ := hG.rel _ List.mem_cons_self
   have hlen : vals.length = ps.size := hcv.len.trans (hps x)
   have hy := run_yield (P := C.P) (args := vals.toArray) hl (by rw [hrec]; simpa using hlen)
   rw [show (rec .ready).fn = fn by rw [hrec], show (rec .ready).params = ps by rw [hrec], show (rec .ready).tmps = a.tmps by rw [hrec], show (rec .ready).assign = assign by rw [hrec], show (rec .ready).body = body by rw [hrec]] at hy
   refine ⟨fn, _, assign, body, hy, roundIn_of_wpIn trivial ?_⟩
   clear hy
   have hmid : ∀ {G : Nat → Prop} {e : Ent} {L : List Ent} {V : World}, Good G (e :: (L ++ out1)) V → Good G (L ++ (e :: out1)) V := fun h => h.perm List.perm_middle.symm
   have hmid2 : ∀ {G : Nat → Prop} {e : Ent} {L : List Ent} {V : World}, Good G (L ++ (e :: out1)) V → Good G (e :: (L ++ out1)) V := fun h => h.perm List.perm_middle
   have hR0 : Rel ⟨C.P, W, F1, footX b0, loopE (w.heap.size + 1) (rec .ready) (fun k => F k ∧ k < w.heap.size) w :: out1, C.N, []⟩ F1 env b0 { tmps := a.tmps, defers := [] } W := by
     refine ⟨hmid hG, fun t p hp => p.mono (hR.env t p hp) fun b hb hlt => hbase b ⟨hb, hlt⟩ hlt, hR.size, rfl, Ch.refl _ _, fun e he b hb => .inr ⟨e, he, hb⟩, fun b hb _ => hb⟩
   have hRx := Rel.puts (ts := ps.toList) hR0 hcv (by rw [hps x]; simp) hN
   have htm : (ps.zip vals.toArray).foldl (fun t (p, v) => t.setIfInBounds p v) a.tmps = (ps.toList.zip vals).foldl (fun t (p, v) => t.setIfInBounds p v) a.tmps := by
     rw [← Array.foldl_toList]; simp
   rw [htm]
   have hx1 := (hround ⟨C.P, W, F1, footX b0, loopE (w.heap.size + 1) (rec .ready) (fun k => F k ∧ k < w.heap.size) w :: out1, C.N, []⟩ (w.heap.size + 1) m pre x b0 rfl rfl hpre hS).out F1 _ W hRx
   refine wpIn_mono hx1 ?_
   rintro e a1 w1 ⟨F2, env1, loc1, hR1, rfl, rfl, rfl⟩
   have hG1' := hmid2 hR1.good
   have hl1 := (hG1'.rel _ List.mem_cons_self).1
   refine ⟨_, run_beginRound hl1 (by rw [hrec]), ?_⟩
   obtain ⟨o2, ho2⟩ : ∃ o, o = Obj.loop { rec .ready with state := .busy } := ⟨_, rfl⟩
   rw [← ho2]
   have hlt1 := hG1'.lt _ List.mem_cons_self (w.heap.size + 1) (by simp [loopE])
   have hoth1 : ∀ b, b ≠ w.heap.size + 1 → (w1.putObj (w.heap.size + 1) o2).heap[b]? = w1.heap[b]? := fun b hb => World.putObj_heap_other hb
   have hkeep1 : ∀ b, F2 b → b < w1.heap.size → F2 b ∧ (w1.putObj (w.heap.size + 1) o2).heap[b]? = w1.heap[b]? := fun b hb _ => ⟨hb, hoth1 b fun e' => hlt1.2 (e' ▸ hb)⟩
   have hbase1 := (hG1'.rel _ List.mem_cons_self).2
   have hG2' : Good F2 (loopE (w.heap.size + 1) { rec .ready with state := .busy } (fun k => F k ∧ k < w.heap.size) w :: (loc1 ++ out1)) (w1.putObj (w.heap.size + 1) o2) :=
     hG1'.put rfl rfl fun ho hn => ⟨by rw [hn, ho2], fun b hb hlt => ⟨(hbase1 b hb hlt).1, by rw [ho b (by omega)]; exact (hbase1 b hb hlt).2⟩⟩
   have hR2 : Rel ⟨C.P, w1.putObj (w.heap.size + 1) o2, F2, footX loc1, loopE (w.heap.size + 1) { rec .ready with state := .busy } (fun k => F k ∧ k < w.heap.size) w :: out1, C.N, []⟩ F2 (envA x (putE env ps.toList (encs x))) loc1 a1 (w1.putObj (w.heap.size + 1) o2) :=
     ⟨hmid hG2', fun t p hp => p.mono (hR1.env t p hp) hkeep1, hR1.size, hR1.defers, Ch.refl _ _, fun e he b hb => .inr ⟨e, he, hb⟩, fun b hb _ => hb⟩
   have hx2 := (hbody ⟨C.P, w1.putObj (w.heap.size + 1) o2, F2, footX loc1, loopE (w.heap.size + 1) { rec .ready with state := .busy } (fun k => F k ∧ k < w.heap.size) w :: out1, C.N, []⟩ (w.heap.size + 1) m pre x loc1 rfl rfl hpre hS).out F2 a1 _ hR2
   refine wpIn_mono hx2 ?_
   rintro e a3 w3 ⟨F3, env3, loc3, hR3, hS3⟩
   obtain ⟨jump, rec3, hrec3, hjp⟩ : ∃ (jump : Option Code) (rec3 : Loop), rec3 = { { rec .ready with state := .busy } with state := if jump.isNone then .ready else .done, pending := jump } ∧ ((e = .normal ∧ jump = none ∧ St (pre ++ [x]) loc3 ∧ rec3 = rec .ready) ∨ (e = .ret ∧ jump = some .ret ∧ Sp (pre ++ [x]) loc3 ∧ rec3 = recD)) := by
     rcases hS3 with ⟨rfl, h⟩ | ⟨rfl, h⟩
     · exact ⟨none, _, rfl, .inl ⟨rfl, rfl, h, by rw [hrec]; rfl⟩⟩
     · exact ⟨some .ret, _, rfl, .inr ⟨rfl, rfl, h, by rw [hrecD, hrec]; rfl⟩⟩
   have hG3' := hmid2 hR3.good
   have hl3 := (hG3'.rel _ List.mem_cons_self).1
   have hbase3 := (hG3'.rel _ List.mem_cons_self).2
   have hend := run_endRound (P := C.P) jump hl3
   obtain ⟨o3, ho3⟩ : ∃ o, o = Obj.loop rec3 := ⟨_, rfl⟩
   have ho3' : Obj.loop { { rec .ready with state := .busy } with state := if jump.isNone then .ready else .done, pending := jump } = o3 := by rw [ho3, hrec3]
   rw [ho3'] at hend
   have key : ∃ F' loc', ((jump = none ∧ ∃ b0, loc' = loopE (w.heap.size + 1) (rec .ready) (fun k => F k ∧ k < w.heap.size) w :: b0 ∧ St (pre ++ [x]) b0) ∨ (jump = some .ret ∧ ∃ b0, loc' = loopE (w.heap.size + 1) recD (fun k => F k ∧ k < w.heap.size) w :: b0 ∧ Sp (pre ++ [x]) b0)) ∧ Good F' (loc' ++ out1) (w3.putObj (w.heap.size + 1) o3) ∧ Ch (footX (loopE (w.heap.size + 1) (rec .ready) (fun k => F k ∧ k < w.heap.size) w :: loc1)) W (w3.putObj (w.heap.size + 1) o3) ∧ (∀ b, F1 b → b < W.heap.size → F' b) ∧ ∀ e ∈ loc', ∀ b ∈ e.foot, W.heap.size ≤ b ∨ footX (loopE (w.heap.size + 1) (rec .ready) (fun k => F k ∧ k < w.heap.size) w :: loc1) b := ?key
   · obtain ⟨F', loc', hJ, h1, h2, h3, h4⟩ := key
     rcases hjp with ⟨rfl, rfl, hs, hr3⟩ | ⟨rfl, rfl, hs, hr3⟩
     · refine ⟨_, _, hend, true, rfl, F', loc', .inl ⟨rfl, ?_⟩, h1, h2, h3, h4⟩
       rcases hJ with ⟨_, h⟩ | ⟨h, _⟩
       · exact h
       · cases h
     · refine ⟨_, _, hend, false, rfl, F', loc', .inr ⟨rfl, ?_⟩, h1, h2, h3, h4⟩
       rcases hJ with ⟨h, _⟩ | ⟨_, h⟩
       · cases h
       · exact h
   refine ⟨F3, loopE (w.heap.size + 1) rec3 (fun k => F k ∧ k < w.heap.size) w :: loc3, ?_, ?_, ?_, ?_, ?_⟩
   · rcases hjp with ⟨_, h, hs, hr3⟩ | ⟨_, h, hs, hr3⟩
     · exact .inl ⟨h, loc3, by rw [hr3], hs⟩
     · exact .inr ⟨h, loc3, by rw [hr3], hs⟩
   · exact hG3'.put rfl rfl fun ho hn => ⟨by rw [hn, ho3], fun b hb hlt => ⟨(hbase3 b hb hlt).1, by rw [ho b (by omega)]; exact (hbase3 b hb hlt).2⟩⟩
   · have hmem : footX (loopE (w.heap.size + 1) (rec .ready) (fun k => F k ∧ k < w.heap.size) w :: loc1) (w.heap.size + 1) := ⟨_, List.mem_cons_self, by simp [loopE]⟩
     have hup : ∀ n, footX loc1 n → footX (loopE (w.heap.size + 1) (rec .ready) (fun k => F k ∧ k < w.heap.size) w :: loc1) n := fun n ⟨e, he, hb⟩ => ⟨e, List.mem_cons_of_mem _ he, hb⟩
     have c1 : Ch (footX loc1) W w1 := hR1.ch
     have c3 : Ch (footX loc1) (w1.putObj (w.heap.size + 1) o2) w3 := hR3.ch
     exact ((c1.trans (Ch.put (X := footX (loopE (w.heap.size + 1) (rec .ready) (fun k => F k ∧ k < w.heap.size) w :: loc1)) (o := o2) hmem) (fun n _ h => hup n h) fun n _ h => h).trans c3 (fun n _ h => h) fun n _ h => hup n h).trans (Ch.put (X := footX (loopE (w.heap.size + 1) (rec .ready) (fun k => F k ∧ k < w.heap.size) w :: loc1)) hmem) (fun n _ h => h) fun n _ h => h
   · intro b hb hlt
     have c1 : Ch (footX loc1) W w1 := hR1.ch
     exact hR3.grow b (hR1.grow b hb hlt) (by show b < (w1.putObj _ o2).heap.size; rw [World.putObj_size]; have := c1.size; omega)
   · intro e he b hb
     rcases List.mem_cons.1 he with rfl | he
     · exact .inr ⟨_, List.mem_cons_self, hb⟩
     · rcases hR3.own e he b hb with h | ⟨e', he', hb'⟩
       · have c1 : Ch (footX loc1) W w1 := hR1.ch
         have h' : (w1.putObj (w.heap.size + 1) o2).heap.size ≤ b := h
         rw [World.putObj_size] at h'
         exact .inl (Nat.le_trans c1.size h')
       · exact .inr ⟨e', List.mem_cons_of_mem _ he', hb'⟩
 · show (loopE (w.heap.size + 1) (rec .ready) (fun k => F k ∧ k < w.heap.size) w :: markE w.heap.size :: ((bl ++ l2) ++ C.out)).Perm ((loopE (w.heap.size + 1) (rec .ready) (fun k => F k ∧ k < w.heap.size) w :: bl) ++ (markE w.heap.size :: (l2 ++ C.out)))
   rw [List.append_assoc]
   exact List.Perm.cons _ List.perm_middle.symm
end Go.Fr
namespace Go.Fr
open Go.RowKit Go.Kx
def isDefer : Op → Bool
 | .defer _ => true
 | _ => false
theorem not_defer {op : Op} (h : isDefer op = false) : ∀ c, op ≠ .defer c := by rintro c rfl; cases h
section
variable {C : Cx} {Fe : Fence} {n : Nat} {ops : Array Oper} {Q : Post} {env : Env} {loc : List Ent}
theorem WPI_u {d : Nat} {op : Op} {ty : TypeId} {pos : String} {af : Array Edge} {rest : List Oper} {p : SP} [hFe : CalmC Fe] (hdf : isDefer op = false) (h : WT C (Hold fun _ => True) ⟨some d, op, ty, pos, af, none⟩ p env loc) (hd : Nat.blt d C.N = true) (hk : WPI C Fe n ops Q rest ((d, p) :: env) loc) : WPI C Fe n ops Q (⟨some d, op, ty, pos, af, none⟩ :: rest) env loc := WPI_t hFe.out (not_defer hdf) h hd hk
theorem WPI_gu {d : Nat} {op : Op} {ty : TypeId} {pos : String} {af : Array Edge} {rest : List Oper} {p : SP} {j dj : Nat} {want : Bool} [hFe : CalmC Fe] (hdf : isDefer op = false) (hj : (ops[j]?).bind (·.dst) = some dj) (hdj : Nat.blt dj C.N = true) (he : Fr.look dj env = some (exB want))
   (h : WT C (Hold fun _ => True) ⟨some d, op, ty, pos, af, some (j, want)⟩ p env loc) (hd : Nat.blt d C.N = true) (hk : WPI C Fe n ops Q rest ((d, p) :: env) loc) : WPI C Fe n ops Q (⟨some d, op, ty, pos, af, some (j, want)⟩ :: rest) env loc := WPI_gt hj hdj he h hd hk (not_defer hdf)
theorem WPI_opu {o : Oper} {rest : List Oper} [hFe : CalmC Fe] (hdf : isDefer o.op = false) (hg : o.guard = none) (h : WO C (feet []) o (fun env loc => WPI C Fe n ops Q rest env loc) env loc) : WPI C Fe n ops Q (o :: rest) env loc := WPI_op0 hg h (not_defer hdf)
theorem WPI_onu {o : Oper} {rest : List Oper} {j d : Nat} {want : Bool} [hFe : CalmC Fe] (hdf : isDefer o.op = false) (hg : o.guard = some (j, want)) (hj : (ops[j]?).bind (·.dst) = some d) (hd : Nat.blt d C.N = true) (he : Fr.look d env = some (exB want)) (h : WO C (feet []) o (fun env loc => WPI C Fe n ops Q rest env loc) env loc) : WPI C Fe n ops Q (o :: rest) env loc := WPI_on0 hg hj hd he h (not_defer hdf)
end
theorem raw_past {C : Cx} {K : Act → World → Prop} {T : Exit → Act → World → Prop} {env : Env} {loc : List Ent} (h : rawP C T .ret env loc) : rawP C (Exit.then K T) .ret env loc := fun F a w hR => h F a w hR
def loose (C : Cx) (Q : Post) : Post := fun e env loc => ∃ env' loc', Leads C env loc env' loc' ∧ Q e env' loc'
theorem WPC_loose {C : Cx} {Fe : Fence} {n : Nat} {c : Code} {Q : Post} {env : Env} {loc : List Ent} (h : WPC C Fe n c (loose C Q) env loc) : WPC C Fe n c Q env loc := by
 refine ⟨fun F a w hR => wpIn_mono (h.out F a w hR) ?_⟩
 rintro e a' w' ⟨F', env', loc', hR', env2, loc2, hl, hq⟩
 obtain ⟨F2, hR2⟩ := hl F' a' w' hR'
 exact ⟨F2, env2, loc2, hR2, hq⟩
theorem Takes.suffix : ∀ (inn : List Ent) {pre : List Ent}, Takes (pre ++ inn) inn pre
 | [], pre => by rw [List.append_nil]; exact .nil
 | e :: inn, pre => by
   refine .one pre.length (by simp) ?_
   have : (pre ++ e :: inn).eraseIdx pre.length = pre ++ inn := by
     rw [List.eraseIdx_append_of_length_le (by omega)]; simp
   rw [this]
   exact Takes.suffix inn
theorem Im_exagg {vs : List Value} : Im (ex (.agg vs.toArray)) (agg (vs.map ex)) := fun _ _ _ h => ⟨vs, h, ⟨by simp, fun i p hp => by
   rw [List.getElem?_map] at hp
   obtain ⟨u, h1, rfl⟩ := Option.map_eq_some_iff.1 hp
   exact ⟨u, h1, rfl⟩⟩⟩
theorem Leads_up {C : Cx} {env : Env} {loc : List Ent} {t : Nat} {p q : SP} (ht : look t env = some p) (hi : Im p q) : Leads C env loc ((t, q) :: env) loc := fun F a w hR => ⟨F, hR.good, fun t' p' hp => by
   rw [look_cons] at hp
   split at hp
   · rename_i e; cases hp; subst e; exact hi _ _ _ (hR.env _ _ ht)
   · exact hR.env t' p' hp, hR.size, hR.defers, hR.ch, hR.own, hR.grow⟩
theorem Zch {C : Cx} {env : Env} {loc : List Ent} {k b T tot t : Nat} {ps : List SP} (he : loc[k]? = some (row b T tot ps)) (ht : look t env = some (ex (.pointer (some ⟨b, 0, none⟩)))) : Leads C env loc ((t, fp ps) :: (t, fpx b ps) :: env) (loc.eraseIdx k) := (Leads_fpx he ht).trans (Leads_up (by rw [look_cons, if_pos rfl]) Im_fpx_fp)
theorem exL_le {k j : Nat} (h : k ≤ j) (l : List Ex) : Im (exL k l) (exL j l) := by
 induction h with
 | refl => exact Im.refl _
 | step _ ih => exact fun F w v hv => exL_mono _ l F w v (ih F w v hv)
theorem exV_le {k j : Nat} (h : k ≤ j) (x : Ex) : Ims (exV k x) (exV j x) := .cons (Im.refl _) (.cons (Im.refl _) (.cons (Im.refl _) (.cons (Im.refl _) (.cons (exL_le h _) .nil))))
end Go.Fr
namespace Go.Fr
open Go.RowKit Go.Kx
section
variable {C : Cx} {H : Nat → Prop} {env : Env} {loc : List Ent} {dst : Option Tmp} {ty : TypeId} {pos : String} {af : Array Edge} {g : Option (Nat × Bool)}
theorem WT_lookv {κ : Type} [DecidableEq κ] [MK κ] {m : List (κ × SP)} {k : κ} {p : SP} {j b : Nat} {t kt et : TypeId} {dk : TypeDesc} {x y : Operand} (hx : ev env x = some (ex (.map (some b)))) (he : loc[j]? = some (omap b m)) (hy : ev env y = some (ex (MK.val k))) (hl : mlook m k = some p) (ht : C.P.underlying t = some (.map kt et)) (hk : C.P.underlying kt = some dk) (hok : MK.ok κ dk) (hH : H b) : WT C (Hold H) ⟨dst, .lookup t x y false, ty, pos, af, g⟩ p env loc := by
 constructor
 intro F a w hR
 have hv : a.eval x = .map (some b) := Zbb hR hx
 have hvy : a.eval y = MK.val k := Zbb hR hy
 have hmem : omap b m ∈ loc ++ C.out := List.mem_append_left _ (List.mem_of_getElem? he)
 have hb := (hR.good.lt _ hmem b (by simp [omap])).1
 obtain ⟨es, clock, h4, h5, h6⟩ := hR.good.rel _ hmem
 obtain ⟨i, v, h7, h8, _⟩ := findNow_some hok m es.toList 0 (by simpa using h5) (fun i k p hp => by simpa using h6 i k p hp) hl
 refine ⟨v, h8, fun w' hs => ?_⟩
 have hf := run_findKey (P := C.P) hk h7
 have hbw := hs b hb (.inr hH)
 generalize a.eval = ρ at hv hvy ⊢
 simp [execOp, hv, hvy, Instr.lookup, Zco ht, go_sem, Go.MapKept.run_getObj_map (hbw.trans h4), MK.check hk hok, hf]
theorem WT_lookv0 {κ : Type} [DecidableEq κ] [MK κ] {m : List (κ × SP)} {k : κ} {j b : Nat} {t kt et : TypeId} {dk : TypeDesc} {x y : Operand} {sz bt : Nat} {z : Value} (hx : ev env x = some (ex (.map (some b)))) (he : loc[j]? = some (omap b m)) (hy : ev env y = some (ex (MK.val k))) (hl : mlook m k = none) (ht : C.P.underlying t = some (.map kt et)) (hk : C.P.underlying kt = some dk) (hok : MK.ok κ dk) (hH : H b) [hT : TI C.P et sz bt z] : WT C (Hold H) ⟨dst, .lookup t x y false, ty, pos, af, g⟩ (ex z) env loc := by
 constructor
 intro F a w hR
 have hv : a.eval x = .map (some b) := Zbb hR hx
 have hvy : a.eval y = MK.val k := Zbb hR hy
 have hmem : omap b m ∈ loc ++ C.out := List.mem_append_left _ (List.mem_of_getElem? he)
 have hb := (hR.good.lt _ hmem b (by simp [omap])).1
 refine ⟨z, rfl, fun w' hs => ?_⟩
 have hr := lookup_miss (w' := w') (hT := hT) ht hk hok (hR.good.rel _ hmem) (hs b hb (.inr hH)) hl false
 generalize a.eval = ρ at hv hvy ⊢
 simp [execOp, hv, hvy, hr, go_sem]
end
theorem run_delete {κ : Type} [DecidableEq κ] [MK κ] {P : Program} {t kt et ty : TypeId} {ts : Array TypeId} {dk : TypeDesc} {b : Nat} {m1 : List (κ × SP)} {x : κ} {q : SP} {F : Nat → Prop} {w : World} (hts : ts[0]? = some t) (ht : P.underlying t = some (.map kt et)) (hk : P.underlying kt = some dk) (hok : MK.ok κ dk) (hm : mapR F w b (m1 ++ [(x, q)])) (hn : mlook m1 x = none) :
   ∃ es clock, (Builtin.delete_ ts ty #[.map (some b), MK.val x]).run P w = .ok (.tuple #[]) { w with heap := w.heap.setIfInBounds b (.map es clock) } ∧ es.size = m1.length ∧ ∀ (i : Nat) (k : κ) (p : SP), m1[i]? = some (k, p) → ∃ e, es[i]? = some e ∧ e.key = MK.val k ∧ p.rel F w e.val := by
 obtain ⟨es, clock, h1, h2, h3⟩ := hm
 have hnone : ∀ (l : List (κ × SP)), mlook l x = none → ∀ (i : Nat) (p : SP), l[i]? ≠ some (x, p) := by
   intro l
   induction l with
   | nil => intro _ i p h; simp at h
   | cons a l ih =>
     obtain ⟨k, p0⟩ := a
     intro hl i p h
     unfold mlook at hl
     split at hl
     · cases hl
     · rename_i hne
       cases i with
       | zero => simp at h; exact hne h.1.symm
       | succ i => exact ih hl i p (by simpa using h)
 have hsome : mlook (m1 ++ [(x, q)]) x = some q := by
   clear h1 h2 h3
   induction m1 with
   | nil => simp [mlook]
   | cons a l ih =>
     obtain ⟨k, p0⟩ := a
     unfold mlook at hn
     split at hn
     · cases hn
     · rename_i hne
       show (if x = k then some p0 else mlook (l ++ [(x, q)]) x) = some q
       rw [if_neg hne]; exact ih hn
 obtain ⟨i, v, h4, h5, h6, _⟩ := findNow_some hok (m1 ++ [(x, q)]) es.toList 0 (by simpa using h2) (fun i k p hp => by simpa using h3 i k p hp) hsome
 have hi : i = m1.length := by
   have hlt := (List.getElem?_eq_some_iff.1 h6).1
   rcases Nat.lt_or_ge i m1.length with h | h
   · rw [List.getElem?_append_left h] at h6
     exact absurd h6 (hnone m1 hn i q)
   · simp at hlt; omega
 have hsz : es.size = m1.length + 1 := by rw [h2]; simp
 rw [Nat.zero_add] at h4
 have hf := run_findKey (P := P) hk h4
 have hib : i < es.size := by omega
 refine ⟨es.eraseIdxIfInBounds i, clock, ?_, ?_, ?_⟩
 · simp [Builtin.delete_, hts, Zco ht, go_sem, Go.MapKept.run_getObj_map h1, MK.check hk hok, hf, Go.MapKept.run_setObj_map _ h1]
 · simp [Array.eraseIdxIfInBounds, hib]; omega
 · intro j k p hp
   have hj := (List.getElem?_eq_some_iff.1 hp).1
   obtain ⟨e, h7, h8, h9⟩ := h3 j k p (by rw [List.getElem?_append_left hj]; exact hp)
   refine ⟨e, ?_, h8, h9⟩
   have hl : (es.eraseIdxIfInBounds i).toList = es.toList.eraseIdx i := by simp [Array.eraseIdxIfInBounds, hib]
   rw [← Array.getElem?_toList, hl, List.getElem?_eraseIdx, if_pos (by omega), Array.getElem?_toList]
   exact h7
theorem step_builtin {P : Program} {fr : Frame} {cs : List Frame} {w w' : World} {d : Deferred} {ds : List Deferred} {b : Builtin} {ts : Array TypeId} {ty : TypeId} {cn : Array Bool} {u : Value} (hm : fr.mode = .returning) (hd : fr.defers = d :: ds) (ht : d.target = .builtin b ts ty cn) (hi : (invoke d.target d.args).run P w = .ok (.value u) w') :
   step P (lone fr cs w) = .next (lone { fr with defers := ds } cs w') := by
 obtain ⟨t, a⟩ := d
 simp only at ht hi
 subst ht
 refine step_lone_go ?_
 simp [stepG, unwind, callDeferred, hm, hd, Sem.runT_eq, hi, GStep.bare_after]
def bodyPostB (P : Program) (fn : Func) (R : Ending → World → Prop) : Exit → Act → World → Prop
 | .normal, a, w | .ret, a, w => (a.defers = [] ∧ ∃ v, (results fn a.tmps).run P w = .ok v w ∧ R (.returned v) w) ∨ (∃ d b ts ty cn u w', a.defers = [d] ∧ d.target = .builtin b ts ty cn ∧ (invoke d.target d.args).run P w = .ok (.value u) w' ∧ ∃ v, (results fn a.tmps).run P w' = .ok v w' ∧ R (.returned v) w')
 | _, _, _ => False
theorem leaves_B {P : Program} {fn : Func} {R : Ending → World → Prop} {n : Nat} {tmps : Array Value} {ds : List Deferred} (w : World) (fr : Frame) (cs : List Frame) (hu : fr.mode = .returning) (hd : fr.defers = ds) (ht : fr.tmps = tmps) (hf : P.funcs[fr.fn]? = some fn) (hk : fr.kind = .normal) (hb : Fence.wide.fn fr.fn) (hroom : Fence.wide.room (cs.length + 1 + n))
   (h : (ds = [] ∧ ∃ v, (results fn tmps).run P w = .ok v w ∧ R (.returned v) w) ∨ (∃ d b ts ty cn u w', ds = [d] ∧ d.target = .builtin b ts ty cn ∧ (invoke d.target d.args).run P w = .ok (.value u) w' ∧ ∃ v, (results fn tmps).run P w' = .ok v w' ∧ R (.returned v) w')) :
   ∃ e w' fr', R e w' ∧ ComesIn (Machine.fenced P Fence.wide) P (lone fr cs w) (lone fr' cs w') e ∧ fr'.fn = fr.fn ∧ fr'.leaving P w' e := by
 rcases h with ⟨rfl, v, hr, hR⟩ | ⟨d, b, ts, ty, cn, u, w', rfl, htar, hinv, v, hr, hR⟩
 · exact leaves_stepsIn (F := Fence.wide) (n := n) [] .returning w fr cs hu hd ht hf hk hb hroom ⟨v, hr, hR⟩
 · have h1 := step_builtin (cs := cs) hu hd htar hinv
   have i1 : (lone fr cs w).fenced P Fence.wide := fenced_out (n := n) hb hroom (by rw [hu]; simp) hd (fun g hg => by rw [htar] at hg; simp [Target.leads] at hg)
   obtain ⟨e', w'', fr', hR', hs', hfn', hl'⟩ := leaves_stepsIn (F := Fence.wide) (n := n) (P := P) (fn := fn) (tmps := tmps) (R := R) [] .returning w' { fr with defers := [] } cs hu rfl ht hf hk hb hroom ⟨v, hr, hR⟩
   exact ⟨e', w'', fr', hR', ComesIn.of_steps (.one i1 h1) hs', hfn', hl'⟩
theorem callsIn_of_wp_B {P : Program} {n : Nat} {f : FuncId} {fn : Func} {c : Code} {args : Array Value} {w : World} {R : Ending → World → Prop}
   (hf : P.funcs[f]? = some fn) (hb : fn.body = some c)
   (h : c.wpIn Fence.wide n P (bodyPostB P fn R) { tmps := args ++ Array.replicate (fn.ntmps - args.size) undef, defers := [] } w) : CallsIn Fence.wide n P f args w R := by
 have hF : Fence.wide.fn f := trivial
 refine ⟨hF, fun cs hr => ?_⟩
 let b : Frame := { (default : Frame) with fn := f, kind := .normal, roundOf := none }
 have henter : Frame.enter P f args .normal =
     b.atR { tmps := args ++ Array.replicate (fn.ntmps - args.size) undef, defers := [] } [.code c] := by
   simp [Frame.enter, Frame.atR, hf, hb, b]
 obtain ⟨e, a', w', hq, harr⟩ := h b [] cs rfl hF hr
 rw [← henter] at harr
 cases e with
 | normal =>
   obtain ⟨e', w'', fr', hR, hs, hfn, hl⟩ := leaves_B (n := n) w' { b.atR a' [] with mode := .returning } cs rfl rfl rfl hf rfl hF hr hq
   exact ⟨e', w'', fr', hR, ComesIn.of_steps (StepsIn.trans harr (.one (fenced_calm (fr := b.atR a' []) hF hr rfl) (stepR_end rfl))) hs, hfn, hl⟩
 | ret =>
   obtain ⟨todo, hs₀⟩ := harr.1 rfl
   obtain ⟨e', w'', fr', hR, hs, hfn, hl⟩ := leaves_B (n := n) w' { b.atR a' todo with mode := .returning } cs rfl rfl rfl hf rfl hF hr hq
   exact ⟨e', w'', fr', hR, ComesIn.of_steps hs₀ hs, hfn, hl⟩
 | panic chain => exact hq.elim
 | exit id => exact hq.elim
 | goto l => exact hq.elim
 | outgrown => exact hq.elim
abbrev retB (C0 : Cx) (fn : Func) (R : SP → List Ent → Prop) : Exit → Act → World → Prop := bodyPostB C0.P fn (fnR C0 R)
theorem FnC_enterB {P : Program} {f : FuncId} {fn : Func} {c : Code} {args : List SP} {inn : List Ent} {R : SP → List Ent → Prop} {N : Nat} (hf : P.funcs[f]? = some fn) (hb : fn.body = some c) (hN : fn.ntmps = N) (hle : Nat.ble args.length N = true)
   (h : ∀ w0 F0 out, WPR ⟨P, w0, F0, footX inn, out, N, []⟩ c (retB ⟨P, w0, F0, footX inn, out, N, []⟩ fn R) (argEnv 0 args) inn) : FnC P f args inn R := by
 intro F w vals out hG hA
 have hle' : args.length ≤ N := Nat.le_of_ble_eq_true hle
 have hsz : vals.length = args.length := hA.len
 refine callsIn_wide.1 (callsIn_of_wp_B (n := 5) hf hb (wpIn_wide.2 ((h w F out).out F _ w ⟨hG, ?_, ?_, rfl, Ch.refl _ _, fun e he b hb => .inr ⟨e, he, hb⟩, fun b hb _ => hb⟩)))
 · intro t p hp
   obtain ⟨j, rfl, hj⟩ := look_argEnv hp
   obtain ⟨v, hv, hr⟩ := hA.at_ j p hj
   have hlt : j < vals.length := (List.getElem?_eq_some_iff.1 hv).1
   have hx : (vals.toArray ++ Array.replicate (fn.ntmps - vals.toArray.size) undef).getD (0 + j) undef = v := by
     rw [Nat.zero_add, Array.getD_eq_getD_getElem?, Array.getElem?_append_left (by simpa using hlt)]
     simp [hv]
   rw [hx]; exact hr
 · rw [hN]; simp; omega
theorem raw_retB0 {C0 : Cx} {fn : Func} {R : SP → List Ent → Prop} {e : Exit} {env : Env} {loc : List Ent} (hd : C0.dfs = []) (h : retP C0 fn R e env loc) : rawP C0 (retB C0 fn R) e env loc := by
 intro F a w hR
 obtain ⟨F', v, p, loc', h1, h2, h3, h4, h5, h6⟩ := h.2 F a w hR
 have hdf : a.defers = [] := hR.defers.trans hd
 have hpost : fnR C0 R (.returned v) w := ⟨v, F', p, loc', rfl, h2, h3, h4, hR.ch, h5, h6⟩
 rcases h.1 with rfl | rfl
 · exact .inl ⟨hdf, v, h1, hpost⟩
 · exact .inl ⟨hdf, v, h1, hpost⟩
abbrev Cx.withD (C : Cx) (d : Deferred) : Cx := { C with dfs := d :: C.dfs }
theorem raw_retB {κ : Type} [DecidableEq κ] [MK κ] {C0 : Cx} {fn : Func} {R : SP → List Ent → Prop} {e : Exit} {env : Env} {loc : List Ent} {j b : Nat} {m1 : List (κ × SP)} {k : κ} {q : SP} {t kt et ty : TypeId} {ts : Array TypeId} {cn : Array Bool} {dk : TypeDesc} (hd : C0.dfs = []) (he : loc[j]? = some (omap b (m1 ++ [(k, q)]))) (hn : mlook m1 k = none) (hts : ts[0]? = some t) (ht : C0.P.underlying t = some (.map kt et)) (hk : C0.P.underlying kt = some dk) (hok : MK.ok κ dk) (h : retP C0 fn R e env (loc.set j (omap b m1))) : rawP (C0.withD ⟨.builtin .delete ts ty cn, #[.map (some b), MK.val k]⟩) (retB C0 fn R) e env loc := by
 intro F a w hR
 have hmem : omap b (m1 ++ [(k, q)]) ∈ loc ++ C0.out := List.mem_append_left _ (List.mem_of_getElem? he)
 have hG : Good F (loc ++ C0.out) w := hR.good
 have hb := (hG.lt _ hmem b (by simp [omap])).1
 obtain ⟨es, clock, h1, h2, h3⟩ := run_delete (ty := ty) hts ht hk hok (hG.rel _ hmem) hn
 have hoth : ∀ i, i ≠ b → ({ w with heap := w.heap.setIfInBounds b (.map es clock) } : World).heap[i]? = w.heap[i]? := fun i hi => by
   simp [Array.getElem?_setIfInBounds_ne (Ne.symm hi)]
 have hR0 : Rel C0 F env loc { a with defers := [] } w := ⟨hR.good, hR.env, hR.size, hd.symm, hR.ch, hR.own, hR.grow⟩
 have hR2 : Rel C0 F env (loc.set j (omap b m1)) { a with defers := [] } { w with heap := w.heap.setIfInBounds b (.map es clock) } := by
   refine hR0.writeE (b := b) he rfl rfl (fun hm => ⟨es, clock, by simp [hb], h2, fun i k q hq => ?_⟩) hoth rfl rfl rfl (by simp)
   obtain ⟨e, h4, h5, h6⟩ := h3 i k q hq
   exact ⟨e, h4, h5, q.mono h6 hm⟩
 obtain ⟨F', v, p, loc', g1, g2, g3, g4, g5, g6⟩ := h.2 F _ _ hR2
 have hdf : a.defers = [⟨.builtin .delete ts ty cn, #[.map (some b), MK.val k]⟩] := by rw [hR.defers]; show _ :: C0.dfs = _; rw [hd]
 have hpost : fnR C0 R (.returned v) { w with heap := w.heap.setIfInBounds b (.map es clock) } := ⟨v, F', p, loc', rfl, g2, g3, g4, hR2.ch, g5, g6⟩
 have hinv : (invoke (.builtin .delete ts ty cn) #[.map (some b), MK.val k]).run C0.P w = .ok (.value (.tuple #[])) { w with heap := w.heap.setIfInBounds b (.map es clock) } := by
   simp [invoke, h1, go_sem]
 have key : (a.defers = [] ∧ ∃ v, (results fn a.tmps).run C0.P w = .ok v w ∧ fnR C0 R (.returned v) w) ∨ (∃ d b ts ty cn u w', a.defers = [d] ∧ d.target = .builtin b ts ty cn ∧ (invoke d.target d.args).run C0.P w = .ok (.value u) w' ∧ ∃ v, (results fn a.tmps).run C0.P w' = .ok v w' ∧ fnR C0 R (.returned v) w') := .inr ⟨_, _, _, _, _, _, _, hdf, rfl, hinv, v, g1, hpost⟩
 rcases h.1 with rfl | rfl <;> exact key
structure WPLR (C : Cx) (ops : Array Oper) (T : Exit → Act → World → Prop) (l : List Oper) (env : Env) (loc : List Ent) : Prop where
 out : ∀ F a w, Rel C F env loc a w → wpList C.P ops T l a w
theorem WPR_region {C : Cx} {id : Nat} {l : List Oper} {y : Code} {T : Exit → Act → World → Prop} {env : Env} {loc : List Ent} (h : WPLR C l.toArray (Exit.then (y.wp C.P T) T) l env loc) : WPR C (.seq (.region id l.toArray false) y) T env loc := ⟨fun F a w hR => wp_seq (wp_region_lit (h.out F a w hR))⟩
theorem WPLR_t {C : Cx} {ops : Array Oper} {T : Exit → Act → World → Prop} {d : Nat} {op : Op} {ty : TypeId} {pos : String} {af : Array Edge} {rest : List Oper} {p : SP} {env : Env} {loc : List Ent} (h : WT C (Hold fun _ => True) ⟨some d, op, ty, pos, af, none⟩ p env loc) (hd : Nat.blt d C.N = true) (hk : WPLR C ops T rest ((d, p) :: env) loc) : WPLR C ops T (⟨some d, op, ty, pos, af, none⟩ :: rest) env loc := by
 constructor
 intro F a w hR
 unfold wpList
 rw [if_pos (by simp [Region.wanted])]
 have hw := (WO_t (K := fun env loc => WPLR C ops T rest env loc) (H := fun _ => False) h hd hk).out F a w hR
 refine .inl (upon_mono ?_ (fun _ _ _ hf => hf.elim) hw)
 rintro a' w' ⟨F', env', loc', hR', _, _, _, hk⟩
 exact hk.out F' a' w' hR'
theorem WPLR_defer {C : Cx} {ops : Array Oper} {y : Code} {T : Exit → Act → World → Prop} {ty : TypeId} {pos : String} {af : Array Edge} {b : Builtin} {xs : Array Operand} {ts : Array TypeId} {env : Env} {loc : List Ent} (vs : List Value) (ha : xs.toList.map (ev env) = vs.map (fun v => some (ex v))) (hk : WPR (C.withD ⟨.builtin b ts ty (xs.map fun | .const _ => true | _ => false), vs.toArray⟩) y T env loc) : WPLR C ops (Exit.then (y.wp C.P T) T) [⟨none, .defer ⟨.builtin b, xs, ts⟩, ty, pos, af, none⟩] env loc := by
 constructor
 intro F a w hR
 unfold wpList
 rw [if_pos (by simp [Region.wanted])]
 refine .inl ?_
 have hv : xs.map a.eval = vs.toArray := by
   have h1 : xs.toList.map a.eval = vs := by
     apply List.ext_getElem?
     intro i
     have h2 := congrArg (fun l => l[i]?) ha
     simp only [List.getElem?_map] at h2 ⊢
     cases hx : xs.toList[i]? with
     | none =>
       rw [hx] at h2
       cases hv : vs[i]? with
       | none => rfl
       | some v => rw [hv] at h2; simp at h2
     | some x =>
       rw [hx] at h2
       cases hv : vs[i]? with
       | none => rw [hv] at h2; simp at h2
       | some v =>
         rw [hv] at h2
         simp only [Option.map_some, Option.some.injEq] at h2
         have : a.eval x = v := Zbb hR h2
         simp [this]
   rw [← h1]
   apply Array.ext'
   simp
 unfold Oper.wp
 have hrun : (execOp a.eval ⟨none, .defer ⟨.builtin b, xs, ts⟩, ty, pos, af, none⟩).run C.P w = .ok (.defer ⟨.builtin b ts ty (xs.map fun | .const _ => true | _ => false), vs.toArray⟩) w := by
   generalize a.eval = ρ at hv ⊢
   simp [execOp, resolve, go_sem, hv]
   intro x _; cases x <;> rfl
 rw [hrun]
 exact hk.out F _ w ⟨hR.good, hR.env, hR.size, by show _ :: a.defers = _ :: C.dfs; rw [hR.defers], hR.ch, hR.own, hR.grow⟩
def normP (Q : Post) : Post := fun e env loc => e = .normal ∧ Q .normal env loc
theorem WP_norm {C : Cx} {c : Code} {Q : Post} {env : Env} {loc : List Ent} (h : WP C c (normP Q) env loc) : WP C c Q env loc := by
 refine ⟨fun F a w hR => Code.wp_mono ?_ (h.out F a w hR)⟩
 rintro e a' w' ⟨F', env', loc', hR', rfl, hq⟩
 exact ⟨F', env', loc', hR', hq⟩
theorem np_norm {Q : Post} : ∀ c env loc, ¬ normP Q (.panic c) env loc := fun _ _ _ h => by cases h.1
theorem WPR_of {C : Cx} {c : Code} {T : Exit → Act → World → Prop} {env : Env} {loc : List Ent} (h : WP C c (rawP C T) env loc) : WPR C c T env loc := by
 refine ⟨fun F a w hR => Code.wp_mono ?_ (h.out F a w hR)⟩
 rintro e a' w' ⟨F', env', loc', hR', hq⟩
 exact hq F' a' w' hR'
end Go.Fr
namespace Go.Fr
open Go.RowKit Go.Kx
def Cx.marks (C : Cx) : List Nat → Cx
 | [] => C
 | D :: Ds => (C.marks Ds).mark D
theorem marks_P (C : Cx) : ∀ Ds : List Nat, (C.marks Ds).P = C.P
 | [] => rfl
 | _ :: Ds => marks_P C Ds
theorem marks_w0 (C : Cx) : ∀ Ds : List Nat, (C.marks Ds).w0 = C.w0
 | [] => rfl
 | _ :: Ds => marks_w0 C Ds
theorem Rel.unmark {C1 : Cx} {F : Nat → Prop} {env : Env} {loc : List Ent} {a : Act} {w : World} {D : Nat} (hD : C1.w0.heap.size ≤ D) (hR : Rel (C1.mark D) F env loc a w) : (Instr.takeDeferred D).run C1.P w = .ok [] (w.putObj D (.deferred none)) ∧ a.defers = ⟨.collected D, #[]⟩ :: C1.dfs ∧ Rel C1 F env loc { a with defers := C1.dfs } (w.putObj D (.deferred none)) := by
 have hG : Good F (loc ++ (markE D :: C1.out)) w := hR.good
 have hp : (loc ++ (markE D :: C1.out)).Perm (markE D :: (loc ++ C1.out)) := List.perm_middle
 have hG2 := hG.perm hp
 have hm : w.heap[D]? = some (.deferred (some [])) := hG2.rel _ List.mem_cons_self
 have hltD := hG2.lt _ List.mem_cons_self D (by simp [markE])
 have hoth : ∀ b, b ≠ D → (w.putObj D (.deferred none)).heap[b]? = w.heap[b]? := fun b hb => World.putObj_heap_other hb
 have hkeep : ∀ b, F b → b < w.heap.size → F b ∧ (w.putObj D (.deferred none)).heap[b]? = w.heap[b]? := fun b hb _ => ⟨hb, hoth b fun e' => hltD.2 (e' ▸ hb)⟩
 have hG3 : Good F (loc ++ C1.out) (w.putObj D (.deferred none)) := by
   have hpw := List.pairwise_cons.1 hG2.disj
   refine ⟨fun x hx => x.mono (hG2.rel x (List.mem_cons_of_mem _ hx)) hkeep fun b hb => hoth b fun e' => hpw.1 x hx D (by simp [markE]) (e' ▸ hb), fun x hx b hb => ?_, hpw.2⟩
   rw [World.putObj_size]; exact hG2.lt x (List.mem_cons_of_mem _ hx) b hb
 refine ⟨run_takeDeferred hm, hR.defers, hG3, fun t p hp => p.mono (hR.env t p hp) hkeep, hR.size, rfl, ?_, hR.own, hR.grow⟩
 exact hR.ch.trans (Ch.put (X := fun b => b = D) rfl) (fun _ _ h => h) fun b hb e' => by have hb' : b < C1.w0.heap.size := hb; omega
theorem raw_retM {C0 : Cx} {fn : Func} {R : SP → List Ent → Prop} {e : Exit} {env : Env} {loc : List Ent} {Ds : List Nat} (hd : C0.dfs = []) (hD : ∀ D ∈ Ds, C0.w0.heap.size ≤ D) (h : retP C0 fn R e env loc) : rawP (C0.marks Ds) (retT C0 fn R) e env loc := by
 have key : ∀ (Ds : List Nat), (∀ D ∈ Ds, C0.w0.heap.size ≤ D) → ∀ F a w, Rel (C0.marks Ds) F env loc a w → LeavesInM Fence.wide 5 C0.P fn a.tmps (fnR C0 R) a.defers .returning w := by
   intro Ds
   induction Ds with
   | nil =>
     intro _ F a w hR
     obtain ⟨F', v, p, loc', h1, h2, h3, h4, h5, h6⟩ := h.2 F a w hR
     have hdf : a.defers = [] := hR.defers.trans hd
     rw [hdf]
     exact ⟨v, h1, ⟨v, F', p, loc', rfl, h2, h3, h4, hR.ch, h5, h6⟩⟩
   | cons D Ds ih =>
     intro hDs F a w hR
     obtain ⟨h1, h2, h3⟩ := Rel.unmark (by rw [marks_w0]; exact hDs D List.mem_cons_self) hR
     rw [h2]
     rw [marks_P] at h1
     exact ⟨by simp, .inl ⟨D, _, rfl, h1, ih (fun D' h' => hDs D' (List.mem_cons_of_mem _ h')) F _ _ h3⟩⟩
 intro F a w hR
 rcases h.1 with rfl | rfl <;> exact key Ds hD F a w hR
theorem WPR_seqR {C : Cx} {x y : Code} {T : Exit → Act → World → Prop} {env : Env} {loc : List Ent} (h : WPR C x (Exit.then (y.wp C.P T) T) env loc) : WPR C (.seq x y) T env loc := ⟨fun F a w hR => wp_seq (h.out F a w hR)⟩
theorem WPR_blk {C : Cx} {id : Nat} {c : Code} {T : Exit → Act → World → Prop} {env : Env} {loc : List Ent} (h : WPR C c (Exit.inBlock id T) env loc) : WPR C (.block id c) T env loc := ⟨fun F a w hR => wp_block (h.out F a w hR)⟩
theorem raw_pastB {C : Cx} {id : Nat} {T : Exit → Act → World → Prop} {env : Env} {loc : List Ent} (h : rawP C T .ret env loc) : rawP C (Exit.inBlock id T) .ret env loc := fun F a w hR => h F a w hR
theorem raw_inB {C : Cx} {id : Nat} {T : Exit → Act → World → Prop} {env : Env} {loc : List Ent} (h : rawP C T .normal env loc) : rawP C (Exit.inBlock id T) .normal env loc := fun F a w hR => h F a w hR
theorem raw_exitB {C : Cx} {id : Nat} {T : Exit → Act → World → Prop} {env : Env} {loc : List Ent} (h : rawP C T .normal env loc) : rawP C (Exit.inBlock id T) (.exit id) env loc := fun F a w hR => by
 show (if id = id then T .normal a w else T (.exit id) a w)
 rw [if_pos rfl]; exact h F a w hR
def roundT (C0 : Cx) {α : Type} (I : α → Env × List Ent) (ok : α → Prop) (n : Nat) (μ : α → Nat) (T : Exit → Act → World → Prop) : Exit → Act → World → Prop :=
 Exit.then (fun a' w' => ∃ Ds y F, (∀ D ∈ Ds, C0.w0.heap.size ≤ D) ∧ ok y ∧ μ y < n ∧ Rel (C0.marks Ds) F (I y).1 (I y).2 a' w') T
theorem raw_round {C0 : Cx} {α : Type} {I : α → Env × List Ent} {ok : α → Prop} {n : Nat} {μ : α → Nat} {T : Exit → Act → World → Prop} {Ds : List Nat} {env : Env} {loc : List Ent} (y : α) (hD : ∀ D ∈ Ds, C0.w0.heap.size ≤ D) (hy : ok y) (hlt : μ y < n) (hl : Leads (C0.marks Ds) env loc (I y).1 (I y).2) : rawP (C0.marks Ds) (roundT C0 I ok n μ T) .normal env loc := fun F a w hR =>
 let ⟨F2, hR2⟩ := hl F a w hR
 ⟨Ds, y, F2, hD, hy, hlt, hR2⟩
theorem raw_roundP {C0 C : Cx} {α : Type} {I : α → Env × List Ent} {ok : α → Prop} {n : Nat} {μ : α → Nat} {T : Exit → Act → World → Prop} {e : Exit} {env : Env} {loc : List Ent} (he : e ≠ .normal) (h : rawP C T e env loc) : rawP C (roundT C0 I ok n μ T) e env loc := fun F a w hR => by
 have := h F a w hR
 cases e with
 | normal => exact absurd rfl he
 | _ => exact this
theorem WPR_loopM {C0 : Cx} {c : Code} {T : Exit → Act → World → Prop} {env : Env} {loc : List Ent} {α : Type} {Ds0 : List Nat} (I : α → Env × List Ent) (ok : α → Prop) (μ : α → Nat) (x0 : α) (hD0 : ∀ D ∈ Ds0, C0.w0.heap.size ≤ D) (h0 : Leads (C0.marks Ds0) env loc (I x0).1 (I x0).2) (hk : ok x0)
   (round : ∀ Ds x, (∀ D ∈ Ds, C0.w0.heap.size ≤ D) → ok x → WPR (C0.marks Ds) c (roundT C0 I ok (μ x) μ T) (I x).1 (I x).2) : WPR (C0.marks Ds0) (.loop c) T env loc := by
 have key : ∀ n x, μ x = n → ok x → ∀ Ds, (∀ D ∈ Ds, C0.w0.heap.size ≤ D) → ∀ F a w, Rel (C0.marks Ds) F (I x).1 (I x).2 a w → ∀ (b : Frame) (k : List Item) (cs : List Frame),
     ∃ e a' w', T e a' w' ∧ Arrives C0.P (lone (b.at a (.code c :: .inLoop c :: k)) cs w) b k cs e a' w' := by
   intro n
   induction n using Nat.strongRecOn with
   | _ n ih =>
     intro x hn hx Ds hDs F a w hR b k cs
     have hwp := (round Ds x hDs hx).out F a w hR
     rw [marks_P] at hwp
     obtain ⟨e, a₁, w₁, hq, harr⟩ := hwp b (.inLoop c :: k) cs
     cases e with
     | normal =>
       obtain ⟨Ds2, y, F2, hDs2, hy, hlt, hR2⟩ := hq
       obtain ⟨e₂, a₂, w₂, hq₂, harr₂⟩ := ih (μ y) (hn ▸ hlt) y rfl hy Ds2 hDs2 F2 a₁ w₁ hR2 b k cs
       exact ⟨e₂, a₂, w₂, hq₂, .of_steps (Steps.trans harr (.one step_inLoop)) harr₂⟩
     | exit id => exact ⟨_, a₁, w₁, hq, .pass (x := .inLoop c) rfl (fun _ _ => .inl (by simp)) harr⟩
     | goto l => exact ⟨_, a₁, w₁, hq, .pass (x := .inLoop c) rfl (fun _ _ => .inl (by simp)) harr⟩
     | ret => exact ⟨_, a₁, w₁, hq, .pass (x := .inLoop c) rfl (fun _ _ => .inl (by simp)) harr⟩
     | panic ch => exact ⟨_, a₁, w₁, hq, .pass (x := .inLoop c) rfl (fun _ _ => .inl (by simp)) harr⟩
     | outgrown => exact ⟨_, a₁, w₁, hq, .pass (x := .inLoop c) rfl (fun _ _ => .inl (by simp)) harr⟩
 refine ⟨fun F a w hR => ?_⟩
 rw [marks_P]
 intro b k cs
 obtain ⟨F', hR'⟩ := h0 F a w hR
 obtain ⟨e, a', w', hq, harr⟩ := key _ x0 rfl hk Ds0 hD0 F' a w hR' b k cs
 exact ⟨e, a', w', hq, .of_steps (.one step_loop) harr⟩
theorem marks_lit (P : Program) (w0 : World) (F0 X : Nat → Prop) (out : List Ent) (N : Nat) (dfs : List Deferred) : ∀ Ds : List Nat, ∃ o d, (⟨P, w0, F0, X, out, N, dfs⟩ : Cx).marks Ds = ⟨P, w0, F0, X, o, N, d⟩
 | [] => ⟨out, dfs, rfl⟩
 | D :: Ds => by
   obtain ⟨o, d, h⟩ := marks_lit P w0 F0 X out N dfs Ds
   refine ⟨markE D :: o, ⟨.collected D, #[]⟩ :: d, ?_⟩
   show Cx.mark _ D = _
   rw [h]
theorem raw_roundC {C0 C : Cx} {α : Type} {I : α → Env × List Ent} {ok : α → Prop} {n : Nat} {μ : α → Nat} {T : Exit → Act → World → Prop} {Ds : List Nat} {env : Env} {loc : List Ent} (hC : C0.marks Ds = C) (y : α) (hD : ∀ D ∈ Ds, C0.w0.heap.size ≤ D) (hy : ok y) (hlt : μ y < n) (hl : Leads C env loc (I y).1 (I y).2) : rawP C (roundT C0 I ok n μ T) .normal env loc := by
 subst hC; exact raw_round y hD hy hlt hl
theorem raw_retC {C0 C : Cx} {fn : Func} {R : SP → List Ent → Prop} {e : Exit} {env : Env} {loc : List Ent} {Ds : List Nat} (hC : C0.marks Ds = C) (hd : C0.dfs = []) (hD : ∀ D ∈ Ds, C0.w0.heap.size ≤ D) (h : retP C0 fn R e env loc) : rawP C (retT C0 fn R) e env loc := by
 subst hC; exact raw_retM hd hD h
end Go.Fr
namespace Go.Fr
open Go.RowKit Go.Kx
def inB (n lo hi : Int) : Bool := decide (lo ≤ n ∧ n ≤ hi)
namespace Crit
def fine (c : Crit) : Bool := decide (0 ≤ c.low ∧ c.low < c.high ∧ c.high ≤ 1000 ∧ 1 ≤ c.step ∧ (c.high - c.low).tmod c.step = 0 ∧ 1 ≤ c.how ∧ c.how ≤ 3 ∧ 0 ≤ c.trim ∧ (c.trim = 0 ∨ c.how = 2))
end Crit
namespace ItemD
def fine (c : ItemD) : Bool := decide (0 ≤ c.value ∧ c.value ≤ 1048576 ∧ 1 ≤ c.most ∧ c.most ≤ 100)
end ItemD
namespace KeyD
def fine (k : KeyD) : Bool := decide ((k.kind = 1 ∨ k.kind = 2 ∨ k.kind = 5) ∨ ((k.kind = 3 ∨ k.kind = 4 ∨ k.kind = 6) ∧ k.n = 0 ∧ k.name = []))
end KeyD
def fallF : Int → List Int → Bool
 | _, [] => true
 | m, n :: l => inB n 0 m && fallF n l
def shapeF (k : Int) : Option (Int × Bool × Bool) :=
 if k = 1 then some (0, true, false) else if k = 2 then some (0, false, true) else if k = 3 then some (0, false, false) else if k = 4 then some (0, false, false) else if k = 5 then some (0, false, true)
 else if k = 6 then some (2, false, false) else if k = 7 then some (2, false, false) else if k = 8 then some (1, true, false) else if k = 9 then some (2, false, false) else if k = 10 then some (2, false, false) else if k = 11 then some (4, false, false) else none
namespace Ex
def node (x : Ex) : Bool := match shapeF x.kind with
 | none => false
 | some (p, num, ref) => decide ((x.l.length : Int) = p ∧ (ref = false → x.name = []) ∧ (if num then (0 ≤ x.n ∧ x.n ≤ 1099511627776 ∧ 1 ≤ x.d ∧ x.d ≤ 1099511627776) else (x.d = 0 ∧ (ref = false → x.n = 0))))
mutual
def fine : Ex → Bool
 | mk k s n d l => node (mk k s n d l) && fines l
def fines : List Ex → Bool
 | [] => true
 | x :: xs => fine x && fines xs
end
mutual
def pre : Ex → List Ex
 | mk k s n d l => mk k s n d l :: pres l
def pres : List Ex → List Ex
 | [] => []
 | x :: xs => pre x ++ pres xs
end
theorem fines_all : ∀ l : List Ex, fines l = l.all fine
 | [] => rfl
 | x :: xs => by simp [fines, fines_all xs]
theorem fine_l (x : Ex) : x.fine = (x.node && x.l.all fine) := by cases x; simp [fine, fines_all, l]
theorem pres_flat : ∀ l : List Ex, pres l = l.flatMap pre
 | [] => rfl
 | x :: xs => by simp [pres, pres_flat xs]
theorem pre_l (x : Ex) : x.pre = x :: x.l.flatMap pre := by cases x; simp [pre, pres_flat, l]
mutual
theorem fine_pre : ∀ x : Ex, x.fine = x.pre.all node
 | mk k s n d l => by simp only [fine, pre, List.all_cons, fines_pre l]
theorem fines_pre : ∀ l : List Ex, fines l = (pres l).all node
 | [] => rfl
 | x :: xs => by simp only [fines, pres, List.all_append, fine_pre x, fines_pre xs]
end
def zero : Ex := mk 0 [] 0 0 []
end Ex
namespace RoundD
def fine (crits : List Crit) (y : RoundD) : Bool := decide (1 ≤ y.panel ∧ y.panel ≤ 256 ∧ 1 ≤ y.quota ∧ y.quota ≤ 4096 ∧ 1 ≤ y.cut ∧ y.cut ≤ 3) && (crits.all (fun c => decide (2 * c.trim < y.panel)) && (if y.places then decide (y.score = Ex.zero) else y.score.fine))
end RoundD
namespace TieD
def fine (t : TieD) : Bool := decide (0 < t.keys.length) && t.keys.all KeyD.fine
end TieD
namespace RulesD
def fine (r : RulesD) : Bool := decide (0 < r.crits.length ∧ 0 < r.rounds.length) && (r.crits.all Crit.fine && (r.bonus.all ItemD.fine && (r.malus.all ItemD.fine && (fallF 1099511627776 r.prizes && (fallF 1099511627776 r.points && (decide (0 ≤ r.best ∧ r.best ≤ 64 ∧ (r.best = 0 ↔ r.points.length = 0)) && (r.ties.all TieD.fine && r.rounds.all (RoundD.fine r.crits))))))))
end RulesD
end Go.Fr
namespace Go.Fr
open Go.RowKit Go.Kx
theorem WT_remI {C : Cx} {S : (Nat → Prop) → World → World → Prop} {env : Env} {loc : List Ent} {dst : Option Tmp} {ty : TypeId} {pos : String} {af : Array Edge} {g : Option (Nat × Bool)} {x y : Operand} {t u : TypeId} {k : IntKind} {m n : Int} (hx : ev env x = some (exI k m)) (hy : ev env y = some (exI k n)) (h0 : ¬ n = 0 := by omega) : WT C S ⟨dst, .binOp .rem t x y u, ty, pos, af, g⟩ (exI k (m.tmod n)) env loc :=
 ⟨fun _ a _ hR => ⟨_, rfl, fun w' _ => by
   rw [run_bin_int _ _ (Zbb hR hx) (Zbb hR hy)]
   simp only [binOp, Op.intDiv, ne_eq, not_true_eq_false, if_false, h0]
   rfl⟩⟩
end Go.Fr
namespace Go.Proofs.YthldagplhklbnaaGreatDoor
open Go Go.RowKit Go.Kx Go.Fr
set_option maxRecDepth 100000 in
theorem within15_any (n lo hi : Int) : FnC Tryz.prog 81 [exI .i64 n, exI .i64 lo, exI .i64 hi] [] (fun p loc => p = exB (inB n lo hi) ∧ loc = []) := by
 refine Zb7 Tryz.func81 rfl Tryz.ntmps81 rfl fun w0 F0 out => ?_
 (repeat' (first | refine Za8 ?_ | refine Za1 ?_ | refine Za6 ?_ | (apply Za9; (first | exact Za3 rfl | exact Za4 rfl | exact Zas (b := true) rfl (fun _ => rfl) (fun e => by cases e) | exact Zas (b := false) rfl (fun e => by cases e) (fun _ => rfl) | (apply Zah; exact WT_leq rfl rfl)); exact rfl) | (refine Zbq rfl rfl rfl rfl rfl ?_) | (apply Zbt; exact rfl; exact rfl; exact rfl; (first | exact Za3 rfl | (apply Zah; exact WT_leq rfl rfl)); exact rfl) | refine Zaq ?_ | (refine Zbm rfl rfl (fun hb => ?_) (fun hb => ?_) <;> (repeat (first | replace hb := Zam hb | replace hb := Zan hb)) <;> (try (exfalso; fail)))))
 all_goals (refine ⟨.inr rfl, ret1 rfl (.tmp rfl) (List.nil_sublist _) ⟨congrArg exB ?_, rfl⟩⟩)
 all_goals (unfold inB; rw [Bool.eq_iff_iff]; simp; try omega)
set_option maxRecDepth 100000 in
theorem rwithin15_any (n lo hi : Int) : FnC Tryz.prog 34 [exI .i64 n, exI .i64 lo, exI .i64 hi] [] (fun p loc => p = exB (inB n lo hi) ∧ loc = []) := by
 refine Zb7 Tryz.func34 rfl Tryz.ntmps34 rfl fun w0 F0 out => ?_
 (repeat' (first | refine Za8 ?_ | refine Za1 ?_ | refine Za6 ?_ | (apply Za9; (first | exact Za3 rfl | exact Za4 rfl | exact Zas (b := true) rfl (fun _ => rfl) (fun e => by cases e) | exact Zas (b := false) rfl (fun e => by cases e) (fun _ => rfl) | (apply Zah; exact Zcp rfl rfl)); exact rfl) | (refine Zbq rfl rfl rfl rfl rfl ?_) | (apply Zbt; exact rfl; exact rfl; exact rfl; (first | exact Za3 rfl | (apply Zah; exact WT_leq rfl rfl)); exact rfl) | refine Zaq ?_ | (refine Zbm rfl rfl (fun hb => ?_) (fun hb => ?_) <;> (repeat (first | replace hb := Zam hb | replace hb := Zan hb)) <;> (try (exfalso; fail)))))
 all_goals (refine ⟨.inr rfl, ret1 rfl (.tmp rfl) (List.nil_sublist _) ⟨congrArg exB ?_, rfl⟩⟩)
 all_goals (unfold inB; rw [Bool.eq_iff_iff]; simp; try omega)
set_option maxHeartbeats 1000000 in
set_option maxRecDepth 100000 in
theorem crit15_any (c : Crit) : FnC Tryz.prog 77 [agg (critV c)] [] (fun p loc => p = exB c.fine ∧ loc = []) := by
 unfold critV
 refine Zb7 Tryz.func77 rfl Tryz.ntmps77 rfl fun w0 F0 out => ?_
 have hfn : c.fine = decide (0 ≤ c.low ∧ c.low < c.high ∧ c.high ≤ 1000 ∧ 1 ≤ c.step ∧ (c.high - c.low).tmod c.step = 0 ∧ 1 ≤ c.how ∧ c.how ≤ 3 ∧ 0 ≤ c.trim ∧ (c.trim = 0 ∨ c.how = 2)) := rfl
 rw [hfn]
 clear hfn
 (repeat' (first | (apply Zbt; exact rfl; exact rfl; exact rfl; (apply Zah; exact WT_remI rfl rfl); exact rfl) | refine Za8 ?_ | refine Za1 ?_ | refine Za6 ?_ | (apply Za9; (first | exact Za3 rfl | exact Za4 rfl | exact Zas (b := true) rfl (fun _ => rfl) (fun e => by cases e) | exact Zas (b := false) rfl (fun e => by cases e) (fun _ => rfl) | (apply Za7; exact Zab (k := 0) rfl rfl rfl rfl) | (apply Zat; exact Zaf rfl rfl rfl) | (apply Zah; exact Zau rfl rfl)); exact rfl) | (refine Zbq rfl rfl rfl rfl rfl ?_) | (refine WPL_offu rfl rfl rfl rfl ?_) | (apply Zbt; exact rfl; exact rfl; exact rfl; (first | exact Za3 rfl | exact Zas (b := true) rfl (fun _ => rfl) (fun e => by cases e) | exact Zas (b := false) rfl (fun e => by cases e) (fun _ => rfl) | (apply Za7; exact Zab (k := 0) rfl rfl rfl rfl) | (apply Zat; exact Zaf rfl rfl rfl) | (apply Zah; first | exact Zau rfl rfl | exact Zcd rfl rfl | exact Zc3 rfl rfl | exact Zcc rfl rfl | exact Zcp rfl rfl | exact WT_sub rfl rfl)); exact rfl) | refine Zag ?_ | refine Zaq ?_ | refine Zb4 rfl ?_ | (apply Zaj; exact rfl; first | (apply Zao; (refine Zaw Tryz.func81 rfl (within15_any _ _ _) rfl ?_; rintro _ _ ⟨rfl, rfl⟩)) | (apply Zc9; refine Zbz rfl ?_; intro _)) | (refine Zbm rfl rfl (fun hb => ?_) (fun hb => ?_) <;> (repeat (first | replace hb := Zam hb | replace hb := Zan hb)) <;> (try (exfalso; fail))) | (refine Zac rfl (fun hb => ?_) (fun hb => ?_) <;> (repeat (first | replace hb := Zam hb | replace hb := Zan hb | replace hb := Zbr hb | replace hb := Zbs hb)) <;> (try (exfalso; fail)))))
 all_goals (refine ⟨.inr rfl, ret1 rfl (.tmp rfl) (List.nil_sublist _) ⟨congrArg exB ?_, rfl⟩⟩)
 all_goals (try simp only [inB, decide_eq_true_eq, decide_eq_false_iff_not] at *); all_goals (rw [Bool.eq_iff_iff]; simp only [decide_eq_true_eq, Bool.false_eq_true, false_iff, true_iff]; omega)
set_option maxHeartbeats 1000000 in
set_option maxRecDepth 100000 in
theorem rcrit15_any (c : Crit) : FnC Tryz.prog 35 [agg (critV c)] [] (fun p loc => p = exB c.fine ∧ loc = []) := by
 unfold critV
 refine Zb7 Tryz.func35 rfl Tryz.ntmps35 rfl fun w0 F0 out => ?_
 have hfn : c.fine = decide (0 ≤ c.low ∧ c.low < c.high ∧ c.high ≤ 1000 ∧ 1 ≤ c.step ∧ (c.high - c.low).tmod c.step = 0 ∧ 1 ≤ c.how ∧ c.how ≤ 3 ∧ 0 ≤ c.trim ∧ (c.trim = 0 ∨ c.how = 2)) := rfl
 rw [hfn]
 clear hfn
 (repeat' (first | (apply Zbt; exact rfl; exact rfl; exact rfl; (apply Zah; exact WT_remI rfl rfl); exact rfl) | refine Za8 ?_ | refine Za1 ?_ | refine Za6 ?_ | (apply Za9; (first | exact Za3 rfl | exact Za4 rfl | exact Zas (b := true) rfl (fun _ => rfl) (fun e => by cases e) | exact Zas (b := false) rfl (fun e => by cases e) (fun _ => rfl) | (apply Za7; exact Zab (k := 0) rfl rfl rfl rfl) | (apply Zat; exact Zaf rfl rfl rfl) | (apply Zah; exact Zau rfl rfl)); exact rfl) | (refine Zbq rfl rfl rfl rfl rfl ?_) | (refine WPL_offu rfl rfl rfl rfl ?_) | (apply Zbt; exact rfl; exact rfl; exact rfl; (first | exact Za3 rfl | exact Zas (b := true) rfl (fun _ => rfl) (fun e => by cases e) | exact Zas (b := false) rfl (fun e => by cases e) (fun _ => rfl) | (apply Za7; exact Zab (k := 0) rfl rfl rfl rfl) | (apply Zat; exact Zaf rfl rfl rfl) | (apply Zah; first | exact Zau rfl rfl | exact Zcd rfl rfl | exact Zc3 rfl rfl | exact Zcc rfl rfl | exact Zcp rfl rfl | exact WT_sub rfl rfl)); exact rfl) | refine Zag ?_ | refine Zaq ?_ | refine Zb4 rfl ?_ | (apply Zaj; exact rfl; first | (apply Zao; (refine Zaw Tryz.func34 rfl (rwithin15_any _ _ _) rfl ?_; rintro _ _ ⟨rfl, rfl⟩)) | (apply Zc9; refine Zbz rfl ?_; intro _)) | (refine Zbm rfl rfl (fun hb => ?_) (fun hb => ?_) <;> (repeat (first | replace hb := Zam hb | replace hb := Zan hb)) <;> (try (exfalso; fail))) | (refine Zac rfl (fun hb => ?_) (fun hb => ?_) <;> (repeat (first | replace hb := Zam hb | replace hb := Zan hb | replace hb := Zbr hb | replace hb := Zbs hb)) <;> (try (exfalso; fail)))))
 all_goals (refine ⟨.inr rfl, ret1 rfl (.tmp rfl) (List.nil_sublist _) ⟨congrArg exB ?_, rfl⟩⟩)
 all_goals (try simp only [inB, decide_eq_true_eq, decide_eq_false_iff_not] at *); all_goals (rw [Bool.eq_iff_iff]; simp only [decide_eq_true_eq, Bool.false_eq_true, false_iff, true_iff]; omega)
set_option maxHeartbeats 1000000 in
set_option maxRecDepth 100000 in
theorem item15_any (c : ItemD) : FnC Tryz.prog 79 [agg (itemV c)] [] (fun p loc => p = exB c.fine ∧ loc = []) := by
 unfold itemV
 refine Zb7 Tryz.func79 rfl Tryz.ntmps79 rfl fun w0 F0 out => ?_
 have hfn : c.fine = decide (0 ≤ c.value ∧ c.value ≤ 1048576 ∧ 1 ≤ c.most ∧ c.most ≤ 100) := rfl
 rw [hfn]
 clear hfn
 (repeat' (first | refine Za8 ?_ | refine Za1 ?_ | refine Za6 ?_ | (apply Za9; (first | exact Za3 rfl | exact Za4 rfl | exact Zas (b := true) rfl (fun _ => rfl) (fun e => by cases e) | exact Zas (b := false) rfl (fun e => by cases e) (fun _ => rfl) | (apply Za7; exact Zab (k := 0) rfl rfl rfl rfl) | (apply Zat; exact Zaf rfl rfl rfl)); exact rfl) | (refine Zbq rfl rfl rfl rfl rfl ?_) | (apply Zbt; exact rfl; exact rfl; exact rfl; (first | (apply Za7; exact Zab (k := 0) rfl rfl rfl rfl) | (apply Zat; exact Zaf rfl rfl rfl)); exact rfl) | refine Zaq ?_ | (apply Zaj; exact rfl; first | (apply Zao; (refine Zaw Tryz.func81 rfl (within15_any _ _ _) rfl ?_; rintro _ _ ⟨rfl, rfl⟩)) | (apply Zc9; refine Zbz rfl ?_; intro _)) | (apply Zc8; exact rfl; exact rfl; exact rfl; exact rfl; (apply Zao; (refine Zaw Tryz.func81 rfl (within15_any _ _ _) rfl ?_; rintro _ _ ⟨rfl, rfl⟩))) | (refine Zbm rfl rfl (fun hb => ?_) (fun hb => ?_) <;> (repeat (first | replace hb := Zam hb | replace hb := Zan hb)) <;> (try (exfalso; fail)))))
 all_goals (refine ⟨.inr rfl, ret1 rfl (.tmp rfl) (List.nil_sublist _) ⟨congrArg exB ?_, rfl⟩⟩)
 all_goals (try simp only [inB] at *); all_goals (rw [Bool.eq_iff_iff]; simp only [decide_eq_true_eq, Bool.false_eq_true, false_iff]; omega)
set_option maxHeartbeats 1000000 in
set_option maxRecDepth 100000 in
theorem key15_any (q : KeyD) : FnC Tryz.prog 84 [agg (keyV q)] [] (fun p loc => p = exB q.fine ∧ loc = []) := by
 unfold keyV
 refine Zb7 Tryz.func84 rfl Tryz.ntmps84 rfl fun w0 F0 out => ?_
 have hfn : q.fine = decide ((q.kind = 1 ∨ q.kind = 2 ∨ q.kind = 5) ∨ ((q.kind = 3 ∨ q.kind = 4 ∨ q.kind = 6) ∧ q.n = 0 ∧ q.name = [])) := rfl
 rw [hfn]
 clear hfn
 (repeat' (first | refine Za8 ?_ | refine Za1 ?_ | refine Za6 ?_ | (apply Za9; (first | exact Za3 rfl | exact Za4 rfl | exact Zas (b := true) rfl (fun _ => rfl) (fun e => by cases e) | exact Zas (b := false) rfl (fun e => by cases e) (fun _ => rfl) | (apply Za7; exact Zab (k := 0) rfl rfl rfl rfl) | (apply Zat; exact Zaf rfl rfl rfl) | (apply Zah; exact Zcd rfl rfl)); exact rfl) | (refine Zbq rfl rfl rfl rfl rfl ?_) | (apply Zbt; exact rfl; exact rfl; exact rfl; (first | (apply Za7; exact Zab (k := 0) rfl rfl rfl rfl) | (apply Zat; exact Zaf rfl rfl rfl) | (apply Zah; exact WT_teq rfl rfl)); exact rfl) | refine Zaa ?_ | refine Zag ?_ | refine Zaq ?_ | (apply Zaj; exact rfl; (apply Zc9; refine Zbz rfl ?_; intro _)) | (refine Zbm rfl rfl (fun hb => ?_) (fun hb => ?_) <;> (repeat (first | replace hb := Zam hb | replace hb := Zan hb)) <;> (try (exfalso; fail))) | (refine Zac rfl (fun hb => ?_) (fun hb => ?_) <;> (repeat (first | replace hb := Zam hb | replace hb := Zan hb)) <;> (try (exfalso; omega)))))
 all_goals (refine ⟨.inr rfl, ret1 rfl (.tmp rfl) (List.nil_sublist _) ⟨congrArg exB ?_, rfl⟩⟩)
 all_goals (try simp only [inB, decide_eq_true_eq, decide_eq_false_iff_not] at *)
 all_goals (rw [Bool.eq_iff_iff]; simp only [decide_eq_true_eq, Bool.false_eq_true, false_iff, true_iff])
 all_goals (by_cases hnm : q.name = [] <;> simp only [hnm, and_true, and_false, or_false, true_iff, false_iff] <;> omega)
set_option maxHeartbeats 1000000 in
set_option maxRecDepth 100000 in
theorem rkey15_any (q : KeyD) : FnC Tryz.prog 36 [agg (keyV q)] [] (fun p loc => p = exB q.fine ∧ loc = []) := by
 unfold keyV
 refine Zb7 Tryz.func36 rfl Tryz.ntmps36 rfl fun w0 F0 out => ?_
 have hfn : q.fine = decide ((q.kind = 1 ∨ q.kind = 2 ∨ q.kind = 5) ∨ ((q.kind = 3 ∨ q.kind = 4 ∨ q.kind = 6) ∧ q.n = 0 ∧ q.name = [])) := rfl
 rw [hfn]
 clear hfn
 (repeat' (first | refine Za8 ?_ | refine Za1 ?_ | refine Za6 ?_ | (apply Za9; (first | exact Za3 rfl | exact Za4 rfl | exact Zas (b := true) rfl (fun _ => rfl) (fun e => by cases e) | exact Zas (b := false) rfl (fun e => by cases e) (fun _ => rfl) | (apply Za7; exact Zab (k := 0) rfl rfl rfl rfl) | (apply Zat; exact Zaf rfl rfl rfl) | (apply Zah; exact Zcd rfl rfl)); exact rfl) | (refine Zbq rfl rfl rfl rfl rfl ?_) | (refine WPL_offu rfl rfl rfl rfl ?_) | (apply Zbt; exact rfl; exact rfl; exact rfl; (first | exact Za3 rfl | exact Zas (b := true) rfl (fun _ => rfl) (fun e => by cases e) | exact Zas (b := false) rfl (fun e => by cases e) (fun _ => rfl) | (apply Za7; exact Zab (k := 0) rfl rfl rfl rfl) | (apply Zat; exact Zaf rfl rfl rfl) | (apply Zah; first | exact WT_teq rfl rfl | exact Zcd rfl rfl)); exact rfl) | refine Zaq ?_ | (apply Zaj; exact rfl; first | (apply Zao; (refine Zaw Tryz.func34 rfl (rwithin15_any _ _ _) rfl ?_; rintro _ _ ⟨rfl, rfl⟩)) | (apply Zc9; refine Zbz rfl ?_; intro _)) | (refine Zbm rfl rfl (fun hb => ?_) (fun hb => ?_) <;> (repeat (first | replace hb := Zam hb | replace hb := Zan hb)) <;> (try (exfalso; omega)))))
 all_goals (refine ⟨.inr rfl, ret1 rfl (.tmp rfl) (List.nil_sublist _) ⟨congrArg exB ?_, rfl⟩⟩)
 all_goals (try simp only [inB, decide_eq_true_eq, decide_eq_false_iff_not] at *)
 all_goals (rw [Bool.eq_iff_iff]; simp only [decide_eq_true_eq, Bool.false_eq_true, false_iff, true_iff])
 all_goals (by_cases hnm : q.name = [] <;> simp only [hnm, and_true, and_false, or_false, true_iff, false_iff] <;> omega)
end Go.Proofs.YthldagplhklbnaaGreatDoor
namespace Go.Fr
open Go.RowKit Go.Kx
theorem all_take {α : Type} {P : α → Bool} {l : List α} {m : Nat} (h : m < l.length) (h1 : (l.take m).all P = true) (h2 : P l[m] = true) : (l.take (m + 1)).all P = true := by
 rw [List.take_succ_eq_append_getElem h, List.all_append, h1]; simp [h2]
theorem all_not {α : Type} {P : α → Bool} {l : List α} {m : Nat} (h : m < l.length) (h2 : P l[m] = false) : l.all P = false := by
 rw [Bool.eq_false_iff]
 intro h3
 have := List.all_eq_true.1 h3 _ (List.getElem_mem h)
 rw [h2] at this; cases this
theorem Im_cst {f : Fn} : Im (ex (.func f #[] #[])) (clos f []) := fun _ _ _ h => ⟨[], h, ⟨rfl, fun _ _ hp => by cases hp⟩⟩
theorem hH_feet {inn : List Ent} : ∀ b, feet [] b → ∀ e ∈ inn, b ∉ e.foot := fun _ h => absurd h (by rintro ⟨_, h, _⟩; cases h)
theorem CapUp.refl {env : Env} : ∀ caps : List SP, CapUp env caps caps
 | [] => .nil
 | _ :: l => .keep (CapUp.refl l)
theorem fallF_split : ∀ (m : Int) (a b : List Int), fallF m (a ++ b) = (fallF m a && fallF (a.getLastD m) b)
 | _, [], _ => by simp [fallF]
 | m, x :: a, b => by rw [List.cons_append, fallF, fallF, fallF_split x a b, Bool.and_assoc, List.getLastD_cons]
end Go.Fr
namespace Go.Proofs.YthldagplhklbnaaGreatDoor
open Go Go.RowKit Go.Kx Go.Fr
set_option maxHeartbeats 1000000 in
set_option maxRecDepth 100000 in
theorem allKey_any (l : List KeyD) (P : KeyD → Bool) (g : FuncId) (fng : Func) (cg : Code) (hfg : Tryz.prog.funcs[g]? = some fng) (hbg : fng.body = some cg) (hng : (fng.name == "runtime.NumGoroutine") = false) (caps : List SP) (hp : ∀ x ∈ l, FnC Tryz.prog g (agg (keyV x) :: caps) [] (fun p loc => p = exB (P x) ∧ loc = [])) : FnC Tryz.prog 42 [isl eKey l, clos (.func g) caps] [] (fun p loc => p = exB (l.all P) ∧ loc = []) := by
 refine Zbe (i := 0) rfl Zbl fun ha => ?_
 obtain ⟨ha, -⟩ := ha
 simp only [maxLen] at ha
 have hpx : ∀ (m : Nat) (h : m < l.length), FnC Tryz.prog g (agg (keyV l[m]) :: caps) [] (fun p loc => p = exB (P l[m]) ∧ loc = []) := fun m h => hp _ (List.getElem_mem h)
 clear hp
 refine Zb7 Tryz.func42 rfl Tryz.ntmps42 rfl fun w0 F0 out => ?_
 (repeat' (first | refine Za8 ?_ | refine Za1 ?_ | refine Za6 ?_ | (apply Za9; (first | exact Za3 rfl | exact Za4 rfl | (apply Zax; exact Zb3 rfl rfl)); exact rfl) | refine Zaa ?_))
 refine Zbv (fun q : Nat => ([(1, clos (.func g) caps), (7, isl eKey l), (8, exI .i64 l.length), (9, exI .i64 q)], [])) (fun q => q ≤ l.length ∧ (l.take q).all P = true) (fun q => l.length - q) 0 ?_ ⟨Nat.zero_le _, rfl⟩ fun m hm => ?_
 · exact Zae (by repeat (first | exact Zai | refine Zad rfl ?_)) (List.Sublist.refl _)
 obtain ⟨hm, hpre⟩ := hm
 by_cases hlt : m < l.length
 · have hcall := hpx m hlt
   cases he : P l[m]
   · rw [he] at hcall
     (repeat' (first | refine Za8 ?_ | refine Za1 ?_ | refine Za6 ?_ | (apply Za9; (first | exact Za3 rfl | exact Za4 rfl | (apply Za7; first | exact Zb2 rfl rfl | exact Zb6 (k := 0) rfl rfl rfl) | (apply Zah; exact Zau rfl rfl) | (apply Zak; exact Zar rfl rfl rfl) | (apply g_un; exact Zbg rfl)); exact rfl) | refine Zaa ?_ | refine Zag ?_ | refine Zaq ?_ | refine Zb4 rfl ?_ | (apply Zaj; exact rfl; first | (apply Zao; (refine WO_callC (args := [_]) rfl (CapUp.refl _) .nil hfg hbg hcall rfl ?_ hng; rintro _ _ ⟨rfl, rfl⟩)) | (apply Zbi; refine Zba ?_; intro _) | (apply Zav; refine Zal (k := 0) (l0 := []) rfl rfl rfl ?_)) | (refine Zac rfl (fun hb => ?_) (fun hb => ?_) <;> (repeat (first | replace hb := Zam hb | replace hb := Zan hb)) <;> (try (exfalso; omega)))))
     all_goals (try (exfalso; first | contradiction | omega))
     refine ⟨.inr rfl, ret1 rfl (.tmp rfl) (List.nil_sublist _) ⟨congrArg exB ?_, rfl⟩⟩
     exact (all_not hlt he).symm
   · rw [he] at hcall
     (repeat' (first | refine Za8 ?_ | refine Za1 ?_ | refine Za6 ?_ | (apply Za9; (first | exact Za3 rfl | (apply Za7; first | exact Zb2 rfl rfl | exact Zb6 (k := 0) rfl rfl rfl) | (apply Zah; first | exact Zau rfl rfl | exact Zbf rfl rfl) | (apply Zak; exact Zar rfl rfl rfl) | (apply g_un; exact Zbg rfl)); exact rfl) | refine Zaa ?_ | refine Zag ?_ | refine Zb8 rfl ?_ | (apply Zaj; exact rfl; first | (apply Zao; (refine WO_callC (args := [_]) rfl (CapUp.refl _) .nil hfg hbg hcall rfl ?_ hng; rintro _ _ ⟨rfl, rfl⟩)) | (apply Zbi; refine Zba ?_; intro _) | (apply Zav; refine Zal (k := 0) (l0 := []) rfl rfl rfl ?_)) | (refine Zac rfl (fun hb => ?_) (fun hb => ?_) <;> (repeat (first | replace hb := Zam hb | replace hb := Zan hb)) <;> (try (exfalso; omega)))))
     all_goals (try (exfalso; first | contradiction | omega))
     exact ⟨m + 1, ⟨by omega, all_take hlt hpre he⟩, by omega, Zae (by repeat (first | exact Zai | refine Zad rfl ?_)) (List.nil_sublist _)⟩
 · (repeat' (first | refine Za8 ?_ | refine Za1 ?_ | refine Za6 ?_ | (apply Za9; (first | exact Za4 rfl | (apply Zah; exact Zau rfl rfl)); exact rfl) | refine Zaq ?_ | refine Zbk ?_ | (refine Zac rfl (fun hb => ?_) (fun hb => ?_) <;> (repeat (first | replace hb := Zam hb | replace hb := Zan hb)) <;> (try (exfalso; omega)))))
   all_goals (try (exfalso; omega))
   have hk9 : m = l.length := by omega
   subst hk9
   rw [List.take_length] at hpre
   refine ⟨.inr rfl, ret1 rfl (.tmp rfl) (List.nil_sublist _) ⟨congrArg exB ?_, rfl⟩⟩
   exact hpre.symm
theorem allKey_cst (l : List KeyD) (P : KeyD → Bool) (g : FuncId) (fng : Func) (cg : Code) (hfg : Tryz.prog.funcs[g]? = some fng) (hbg : fng.body = some cg) (hng : (fng.name == "runtime.NumGoroutine") = false) (hp : ∀ x ∈ l, FnC Tryz.prog g [agg (keyV x)] [] (fun p loc => p = exB (P x) ∧ loc = [])) : FnC Tryz.prog 42 [isl eKey l, ex (.func (.func g) #[] #[])] [] (fun p loc => p = exB (l.all P) ∧ loc = []) :=
 FnC_args (allKey_any l P g fng cg hfg hbg hng [] hp) (.cons (Im.refl _) (.cons Im_cst .nil))
set_option maxHeartbeats 1000000 in
set_option maxRecDepth 100000 in
theorem allCrit_any (l : List Crit) (P : Crit → Bool) (g : FuncId) (fng : Func) (cg : Code) (hfg : Tryz.prog.funcs[g]? = some fng) (hbg : fng.body = some cg) (hng : (fng.name == "runtime.NumGoroutine") = false) (caps : List SP) (hp : ∀ x ∈ l, FnC Tryz.prog g (agg (critV x) :: caps) [] (fun p loc => p = exB (P x) ∧ loc = [])) : FnC Tryz.prog 76 [isl eCrit l, clos (.func g) caps] [] (fun p loc => p = exB (l.all P) ∧ loc = []) := by
 refine Zbe (i := 0) rfl Zbl fun ha => ?_
 obtain ⟨ha, -⟩ := ha
 simp only [maxLen] at ha
 have hpx : ∀ (m : Nat) (h : m < l.length), FnC Tryz.prog g (agg (critV l[m]) :: caps) [] (fun p loc => p = exB (P l[m]) ∧ loc = []) := fun m h => hp _ (List.getElem_mem h)
 clear hp
 refine Zb7 Tryz.func76 rfl Tryz.ntmps76 rfl fun w0 F0 out => ?_
 (repeat' (first | refine Za8 ?_ | refine Za1 ?_ | refine Za6 ?_ | (apply Za9; (first | exact Za3 rfl | exact Za4 rfl | (apply Zax; exact Zb3 rfl rfl)); exact rfl) | refine Zaa ?_))
 refine Zbv (fun q : Nat => ([(1, clos (.func g) caps), (7, isl eCrit l), (8, exI .i64 l.length), (9, exI .i64 q)], [])) (fun q => q ≤ l.length ∧ (l.take q).all P = true) (fun q => l.length - q) 0 ?_ ⟨Nat.zero_le _, rfl⟩ fun m hm => ?_
 · exact Zae (by repeat (first | exact Zai | refine Zad rfl ?_)) (List.Sublist.refl _)
 obtain ⟨hm, hpre⟩ := hm
 by_cases hlt : m < l.length
 · have hcall := hpx m hlt
   cases he : P l[m]
   · rw [he] at hcall
     (repeat' (first | refine Za8 ?_ | refine Za1 ?_ | refine Za6 ?_ | (apply Za9; (first | exact Za3 rfl | exact Za4 rfl | (apply Za7; first | exact Zb2 rfl rfl | exact Zb6 (k := 0) rfl rfl rfl) | (apply Zah; exact Zau rfl rfl) | (apply Zak; exact Zar rfl rfl rfl) | (apply g_un; exact Zbg rfl)); exact rfl) | refine Zaa ?_ | refine Zag ?_ | refine Zaq ?_ | refine Zb4 rfl ?_ | (apply Zaj; exact rfl; first | (apply Zao; (refine WO_callC (args := [_]) rfl (CapUp.refl _) .nil hfg hbg hcall rfl ?_ hng; rintro _ _ ⟨rfl, rfl⟩)) | (apply Zbi; refine Zba ?_; intro _) | (apply Zav; refine Zal (k := 0) (l0 := []) rfl rfl rfl ?_)) | (refine Zac rfl (fun hb => ?_) (fun hb => ?_) <;> (repeat (first | replace hb := Zam hb | replace hb := Zan hb)) <;> (try (exfalso; omega)))))
     all_goals (try (exfalso; first | contradiction | omega))
     refine ⟨.inr rfl, ret1 rfl (.tmp rfl) (List.nil_sublist _) ⟨congrArg exB ?_, rfl⟩⟩
     exact (all_not hlt he).symm
   · rw [he] at hcall
     (repeat' (first | refine Za8 ?_ | refine Za1 ?_ | refine Za6 ?_ | (apply Za9; (first | exact Za3 rfl | (apply Za7; first | exact Zb2 rfl rfl | exact Zb6 (k := 0) rfl rfl rfl) | (apply Zah; first | exact Zau rfl rfl | exact Zbf rfl rfl) | (apply Zak; exact Zar rfl rfl rfl) | (apply g_un; exact Zbg rfl)); exact rfl) | refine Zaa ?_ | refine Zag ?_ | refine Zb8 rfl ?_ | (apply Zaj; exact rfl; first | (apply Zao; (refine WO_callC (args := [_]) rfl (CapUp.refl _) .nil hfg hbg hcall rfl ?_ hng; rintro _ _ ⟨rfl, rfl⟩)) | (apply Zbi; refine Zba ?_; intro _) | (apply Zav; refine Zal (k := 0) (l0 := []) rfl rfl rfl ?_)) | (refine Zac rfl (fun hb => ?_) (fun hb => ?_) <;> (repeat (first | replace hb := Zam hb | replace hb := Zan hb)) <;> (try (exfalso; omega)))))
     all_goals (try (exfalso; first | contradiction | omega))
     exact ⟨m + 1, ⟨by omega, all_take hlt hpre he⟩, by omega, Zae (by repeat (first | exact Zai | refine Zad rfl ?_)) (List.nil_sublist _)⟩
 · (repeat' (first | refine Za8 ?_ | refine Za1 ?_ | refine Za6 ?_ | (apply Za9; (first | exact Za4 rfl | (apply Zah; exact Zau rfl rfl)); exact rfl) | refine Zaq ?_ | refine Zbk ?_ | (refine Zac rfl (fun hb => ?_) (fun hb => ?_) <;> (repeat (first | replace hb := Zam hb | replace hb := Zan hb)) <;> (try (exfalso; omega)))))
   all_goals (try (exfalso; omega))
   have hk9 : m = l.length := by omega
   subst hk9
   rw [List.take_length] at hpre
   refine ⟨.inr rfl, ret1 rfl (.tmp rfl) (List.nil_sublist _) ⟨congrArg exB ?_, rfl⟩⟩
   exact hpre.symm
theorem allCrit_cst (l : List Crit) (P : Crit → Bool) (g : FuncId) (fng : Func) (cg : Code) (hfg : Tryz.prog.funcs[g]? = some fng) (hbg : fng.body = some cg) (hng : (fng.name == "runtime.NumGoroutine") = false) (hp : ∀ x ∈ l, FnC Tryz.prog g [agg (critV x)] [] (fun p loc => p = exB (P x) ∧ loc = [])) : FnC Tryz.prog 76 [isl eCrit l, ex (.func (.func g) #[] #[])] [] (fun p loc => p = exB (l.all P) ∧ loc = []) :=
 FnC_args (allCrit_any l P g fng cg hfg hbg hng [] hp) (.cons (Im.refl _) (.cons Im_cst .nil))
set_option maxHeartbeats 1000000 in
set_option maxRecDepth 100000 in
theorem allItem_any (l : List ItemD) (P : ItemD → Bool) (g : FuncId) (fng : Func) (cg : Code) (hfg : Tryz.prog.funcs[g]? = some fng) (hbg : fng.body = some cg) (hng : (fng.name == "runtime.NumGoroutine") = false) (caps : List SP) (hp : ∀ x ∈ l, FnC Tryz.prog g (agg (itemV x) :: caps) [] (fun p loc => p = exB (P x) ∧ loc = [])) : FnC Tryz.prog 78 [isl eItem l, clos (.func g) caps] [] (fun p loc => p = exB (l.all P) ∧ loc = []) := by
 refine Zbe (i := 0) rfl Zbl fun ha => ?_
 obtain ⟨ha, -⟩ := ha
 simp only [maxLen] at ha
 have hpx : ∀ (m : Nat) (h : m < l.length), FnC Tryz.prog g (agg (itemV l[m]) :: caps) [] (fun p loc => p = exB (P l[m]) ∧ loc = []) := fun m h => hp _ (List.getElem_mem h)
 clear hp
 refine Zb7 Tryz.func78 rfl Tryz.ntmps78 rfl fun w0 F0 out => ?_
 (repeat' (first | refine Za8 ?_ | refine Za1 ?_ | refine Za6 ?_ | (apply Za9; (first | exact Za3 rfl | exact Za4 rfl | (apply Zax; exact Zb3 rfl rfl)); exact rfl) | refine Zaa ?_))
 refine Zbv (fun q : Nat => ([(1, clos (.func g) caps), (7, isl eItem l), (8, exI .i64 l.length), (9, exI .i64 q)], [])) (fun q => q ≤ l.length ∧ (l.take q).all P = true) (fun q => l.length - q) 0 ?_ ⟨Nat.zero_le _, rfl⟩ fun m hm => ?_
 · exact Zae (by repeat (first | exact Zai | refine Zad rfl ?_)) (List.Sublist.refl _)
 obtain ⟨hm, hpre⟩ := hm
 by_cases hlt : m < l.length
 · have hcall := hpx m hlt
   cases he : P l[m]
   · rw [he] at hcall
     (repeat' (first | refine Za8 ?_ | refine Za1 ?_ | refine Za6 ?_ | (apply Za9; (first | exact Za3 rfl | exact Za4 rfl | (apply Za7; first | exact Zb2 rfl rfl | exact Zb6 (k := 0) rfl rfl rfl) | (apply Zah; exact Zau rfl rfl) | (apply Zak; exact Zar rfl rfl rfl) | (apply g_un; exact Zbg rfl)); exact rfl) | refine Zaa ?_ | refine Zag ?_ | refine Zaq ?_ | refine Zb4 rfl ?_ | (apply Zaj; exact rfl; first | (apply Zao; (refine WO_callC (args := [_]) rfl (CapUp.refl _) .nil hfg hbg hcall rfl ?_ hng; rintro _ _ ⟨rfl, rfl⟩)) | (apply Zbi; refine Zba ?_; intro _) | (apply Zav; refine Zal (k := 0) (l0 := []) rfl rfl rfl ?_)) | (refine Zac rfl (fun hb => ?_) (fun hb => ?_) <;> (repeat (first | replace hb := Zam hb | replace hb := Zan hb)) <;> (try (exfalso; omega)))))
     all_goals (try (exfalso; first | contradiction | omega))
     refine ⟨.inr rfl, ret1 rfl (.tmp rfl) (List.nil_sublist _) ⟨congrArg exB ?_, rfl⟩⟩
     exact (all_not hlt he).symm
   · rw [he] at hcall
     (repeat' (first | refine Za8 ?_ | refine Za1 ?_ | refine Za6 ?_ | (apply Za9; (first | exact Za3 rfl | (apply Za7; first | exact Zb2 rfl rfl | exact Zb6 (k := 0) rfl rfl rfl) | (apply Zah; first | exact Zau rfl rfl | exact Zbf rfl rfl) | (apply Zak; exact Zar rfl rfl rfl) | (apply g_un; exact Zbg rfl)); exact rfl) | refine Zaa ?_ | refine Zag ?_ | refine Zb8 rfl ?_ | (apply Zaj; exact rfl; first | (apply Zao; (refine WO_callC (args := [_]) rfl (CapUp.refl _) .nil hfg hbg hcall rfl ?_ hng; rintro _ _ ⟨rfl, rfl⟩)) | (apply Zbi; refine Zba ?_; intro _) | (apply Zav; refine Zal (k := 0) (l0 := []) rfl rfl rfl ?_)) | (refine Zac rfl (fun hb => ?_) (fun hb => ?_) <;> (repeat (first | replace hb := Zam hb | replace hb := Zan hb)) <;> (try (exfalso; omega)))))
     all_goals (try (exfalso; first | contradiction | omega))
     exact ⟨m + 1, ⟨by omega, all_take hlt hpre he⟩, by omega, Zae (by repeat (first | exact Zai | refine Zad rfl ?_)) (List.nil_sublist _)⟩
 · (repeat' (first | refine Za8 ?_ | refine Za1 ?_ | refine Za6 ?_ | (apply Za9; (first | exact Za4 rfl | (apply Zah; exact Zau rfl rfl)); exact rfl) | refine Zaq ?_ | refine Zbk ?_ | (refine Zac rfl (fun hb => ?_) (fun hb => ?_) <;> (repeat (first | replace hb := Zam hb | replace hb := Zan hb)) <;> (try (exfalso; omega)))))
   all_goals (try (exfalso; omega))
   have hk9 : m = l.length := by omega
   subst hk9
   rw [List.take_length] at hpre
   refine ⟨.inr rfl, ret1 rfl (.tmp rfl) (List.nil_sublist _) ⟨congrArg exB ?_, rfl⟩⟩
   exact hpre.symm
theorem allItem_cst (l : List ItemD) (P : ItemD → Bool) (g : FuncId) (fng : Func) (cg : Code) (hfg : Tryz.prog.funcs[g]? = some fng) (hbg : fng.body = some cg) (hng : (fng.name == "runtime.NumGoroutine") = false) (hp : ∀ x ∈ l, FnC Tryz.prog g [agg (itemV x)] [] (fun p loc => p = exB (P x) ∧ loc = [])) : FnC Tryz.prog 78 [isl eItem l, ex (.func (.func g) #[] #[])] [] (fun p loc => p = exB (l.all P) ∧ loc = []) :=
 FnC_args (allItem_any l P g fng cg hfg hbg hng [] hp) (.cons (Im.refl _) (.cons Im_cst .nil))
set_option maxHeartbeats 1000000 in
set_option maxRecDepth 100000 in
theorem allTie_any (l : List TieD) (P : TieD → Bool) (g : FuncId) (fng : Func) (cg : Code) (hfg : Tryz.prog.funcs[g]? = some fng) (hbg : fng.body = some cg) (hng : (fng.name == "runtime.NumGoroutine") = false) (caps : List SP) (hp : ∀ x ∈ l, FnC Tryz.prog g (agg (tieV x) :: caps) [] (fun p loc => p = exB (P x) ∧ loc = [])) : FnC Tryz.prog 82 [isl eTie l, clos (.func g) caps] [] (fun p loc => p = exB (l.all P) ∧ loc = []) := by
 refine Zbe (i := 0) rfl Zbl fun ha => ?_
 obtain ⟨ha, -⟩ := ha
 simp only [maxLen] at ha
 have hpx : ∀ (m : Nat) (h : m < l.length), FnC Tryz.prog g (agg (tieV l[m]) :: caps) [] (fun p loc => p = exB (P l[m]) ∧ loc = []) := fun m h => hp _ (List.getElem_mem h)
 clear hp
 refine Zb7 Tryz.func82 rfl Tryz.ntmps82 rfl fun w0 F0 out => ?_
 (repeat' (first | refine Za8 ?_ | refine Za1 ?_ | refine Za6 ?_ | (apply Za9; (first | exact Za3 rfl | exact Za4 rfl | (apply Zax; exact Zb3 rfl rfl)); exact rfl) | refine Zaa ?_))
 refine Zbv (fun q : Nat => ([(1, clos (.func g) caps), (7, isl eTie l), (8, exI .i64 l.length), (9, exI .i64 q)], [])) (fun q => q ≤ l.length ∧ (l.take q).all P = true) (fun q => l.length - q) 0 ?_ ⟨Nat.zero_le _, rfl⟩ fun m hm => ?_
 · exact Zae (by repeat (first | exact Zai | refine Zad rfl ?_)) (List.Sublist.refl _)
 obtain ⟨hm, hpre⟩ := hm
 by_cases hlt : m < l.length
 · have hcall := hpx m hlt
   cases he : P l[m]
   · rw [he] at hcall
     (repeat' (first | refine Za8 ?_ | refine Za1 ?_ | refine Za6 ?_ | (apply Za9; (first | exact Za3 rfl | exact Za4 rfl | (apply Za7; first | exact Zb2 rfl rfl | exact Zb6 (k := 0) rfl rfl rfl) | (apply Zah; exact Zau rfl rfl) | (apply Zak; exact Zar rfl rfl rfl) | (apply g_un; exact Zbg rfl)); exact rfl) | refine Zaa ?_ | refine Zag ?_ | refine Zaq ?_ | refine Zb4 rfl ?_ | (apply Zaj; exact rfl; first | (apply Zao; (refine WO_callC (args := [_]) rfl (CapUp.refl _) .nil hfg hbg hcall rfl ?_ hng; rintro _ _ ⟨rfl, rfl⟩)) | (apply Zbi; refine Zba ?_; intro _) | (apply Zav; refine Zal (k := 0) (l0 := []) rfl rfl rfl ?_)) | (refine Zac rfl (fun hb => ?_) (fun hb => ?_) <;> (repeat (first | replace hb := Zam hb | replace hb := Zan hb)) <;> (try (exfalso; omega)))))
     all_goals (try (exfalso; first | contradiction | omega))
     refine ⟨.inr rfl, ret1 rfl (.tmp rfl) (List.nil_sublist _) ⟨congrArg exB ?_, rfl⟩⟩
     exact (all_not hlt he).symm
   · rw [he] at hcall
     (repeat' (first | refine Za8 ?_ | refine Za1 ?_ | refine Za6 ?_ | (apply Za9; (first | exact Za3 rfl | (apply Za7; first | exact Zb2 rfl rfl | exact Zb6 (k := 0) rfl rfl rfl) | (apply Zah; first | exact Zau rfl rfl | exact Zbf rfl rfl) | (apply Zak; exact Zar rfl rfl rfl) | (apply g_un; exact Zbg rfl)); exact rfl) | refine Zaa ?_ | refine Zag ?_ | refine Zb8 rfl ?_ | (apply Zaj; exact rfl; first | (apply Zao; (refine WO_callC (args := [_]) rfl (CapUp.refl _) .nil hfg hbg hcall rfl ?_ hng; rintro _ _ ⟨rfl, rfl⟩)) | (apply Zbi; refine Zba ?_; intro _) | (apply Zav; refine Zal (k := 0) (l0 := []) rfl rfl rfl ?_)) | (refine Zac rfl (fun hb => ?_) (fun hb => ?_) <;> (repeat (first | replace hb := Zam hb | replace hb := Zan hb)) <;> (try (exfalso; omega)))))
     all_goals (try (exfalso; first | contradiction | omega))
     exact ⟨m + 1, ⟨by omega, all_take hlt hpre he⟩, by omega, Zae (by repeat (first | exact Zai | refine Zad rfl ?_)) (List.nil_sublist _)⟩
 · (repeat' (first | refine Za8 ?_ | refine Za1 ?_ | refine Za6 ?_ | (apply Za9; (first | exact Za4 rfl | (apply Zah; exact Zau rfl rfl)); exact rfl) | refine Zaq ?_ | refine Zbk ?_ | (refine Zac rfl (fun hb => ?_) (fun hb => ?_) <;> (repeat (first | replace hb := Zam hb | replace hb := Zan hb)) <;> (try (exfalso; omega)))))
   all_goals (try (exfalso; omega))
   have hk9 : m = l.length := by omega
   subst hk9
   rw [List.take_length] at hpre
   refine ⟨.inr rfl, ret1 rfl (.tmp rfl) (List.nil_sublist _) ⟨congrArg exB ?_, rfl⟩⟩
   exact hpre.symm
theorem allTie_cst (l : List TieD) (P : TieD → Bool) (g : FuncId) (fng : Func) (cg : Code) (hfg : Tryz.prog.funcs[g]? = some fng) (hbg : fng.body = some cg) (hng : (fng.name == "runtime.NumGoroutine") = false) (hp : ∀ x ∈ l, FnC Tryz.prog g [agg (tieV x)] [] (fun p loc => p = exB (P x) ∧ loc = [])) : FnC Tryz.prog 82 [isl eTie l, ex (.func (.func g) #[] #[])] [] (fun p loc => p = exB (l.all P) ∧ loc = []) :=
 FnC_args (allTie_any l P g fng cg hfg hbg hng [] hp) (.cons (Im.refl _) (.cons Im_cst .nil))
set_option maxHeartbeats 1000000 in
set_option maxRecDepth 100000 in
theorem allRound_any (k : Nat) (l : List RoundD) (P : RoundD → Bool) (g : FuncId) (fng : Func) (cg : Code) (hfg : Tryz.prog.funcs[g]? = some fng) (hbg : fng.body = some cg) (hng : (fng.name == "runtime.NumGoroutine") = false) (caps : List SP) (hp : ∀ x ∈ l, FnC Tryz.prog g (agg (roundV k x) :: caps) [] (fun p loc => p = exB (P x) ∧ loc = [])) : FnC Tryz.prog 85 [isl (eRound k) l, clos (.func g) caps] [] (fun p loc => p = exB (l.all P) ∧ loc = []) := by
 refine Zbe (i := 0) rfl Zbl fun ha => ?_
 obtain ⟨ha, -⟩ := ha
 simp only [maxLen] at ha
 have hpx : ∀ (m : Nat) (h : m < l.length), FnC Tryz.prog g (agg (roundV k l[m]) :: caps) [] (fun p loc => p = exB (P l[m]) ∧ loc = []) := fun m h => hp _ (List.getElem_mem h)
 clear hp
 refine Zb7 Tryz.func85 rfl Tryz.ntmps85 rfl fun w0 F0 out => ?_
 (repeat' (first | refine Za8 ?_ | refine Za1 ?_ | refine Za6 ?_ | (apply Za9; (first | exact Za3 rfl | exact Za4 rfl | (apply Zax; exact Zb3 rfl rfl)); exact rfl) | refine Zaa ?_))
 refine Zbv (fun q : Nat => ([(1, clos (.func g) caps), (7, isl (eRound k) l), (8, exI .i64 l.length), (9, exI .i64 q)], [])) (fun q => q ≤ l.length ∧ (l.take q).all P = true) (fun q => l.length - q) 0 ?_ ⟨Nat.zero_le _, rfl⟩ fun m hm => ?_
 · exact Zae (by repeat (first | exact Zai | refine Zad rfl ?_)) (List.Sublist.refl _)
 obtain ⟨hm, hpre⟩ := hm
 by_cases hlt : m < l.length
 · have hcall := hpx m hlt
   cases he : P l[m]
   · rw [he] at hcall
     (repeat' (first | refine Za8 ?_ | refine Za1 ?_ | refine Za6 ?_ | (apply Za9; (first | exact Za3 rfl | exact Za4 rfl | (apply Za7; first | exact Zb2 rfl rfl | exact Zb6 (k := 0) rfl rfl rfl) | (apply Zah; exact Zau rfl rfl) | (apply Zak; exact Zar rfl rfl rfl) | (apply g_un; exact Zbg rfl)); exact rfl) | refine Zaa ?_ | refine Zag ?_ | refine Zaq ?_ | refine Zb4 rfl ?_ | (apply Zaj; exact rfl; first | (apply Zao; (refine WO_callC (args := [_]) rfl (CapUp.refl _) .nil hfg hbg hcall rfl ?_ hng; rintro _ _ ⟨rfl, rfl⟩)) | (apply Zbi; refine Zba ?_; intro _) | (apply Zav; refine Zal (k := 0) (l0 := []) rfl rfl rfl ?_)) | (refine Zac rfl (fun hb => ?_) (fun hb => ?_) <;> (repeat (first | replace hb := Zam hb | replace hb := Zan hb)) <;> (try (exfalso; omega)))))
     all_goals (try (exfalso; first | contradiction | omega))
     refine ⟨.inr rfl, ret1 rfl (.tmp rfl) (List.nil_sublist _) ⟨congrArg exB ?_, rfl⟩⟩
     exact (all_not hlt he).symm
   · rw [he] at hcall
     (repeat' (first | refine Za8 ?_ | refine Za1 ?_ | refine Za6 ?_ | (apply Za9; (first | exact Za3 rfl | (apply Za7; first | exact Zb2 rfl rfl | exact Zb6 (k := 0) rfl rfl rfl) | (apply Zah; first | exact Zau rfl rfl | exact Zbf rfl rfl) | (apply Zak; exact Zar rfl rfl rfl) | (apply g_un; exact Zbg rfl)); exact rfl) | refine Zaa ?_ | refine Zag ?_ | refine Zb8 rfl ?_ | (apply Zaj; exact rfl; first | (apply Zao; (refine WO_callC (args := [_]) rfl (CapUp.refl _) .nil hfg hbg hcall rfl ?_ hng; rintro _ _ ⟨rfl, rfl⟩)) | (apply Zbi; refine Zba ?_; intro _) | (apply Zav; refine Zal (k := 0) (l0 := []) rfl rfl rfl ?_)) | (refine Zac rfl (fun hb => ?_) (fun hb => ?_) <;> (repeat (first | replace hb := Zam hb | replace hb := Zan hb)) <;> (try (exfalso; omega)))))
     all_goals (try (exfalso; first | contradiction | omega))
     exact ⟨m + 1, ⟨by omega, all_take hlt hpre he⟩, by omega, Zae (by repeat (first | exact Zai | refine Zad rfl ?_)) (List.nil_sublist _)⟩
 · (repeat' (first | refine Za8 ?_ | refine Za1 ?_ | refine Za6 ?_ | (apply Za9; (first | exact Za4 rfl | (apply Zah; exact Zau rfl rfl)); exact rfl) | refine Zaq ?_ | refine Zbk ?_ | (refine Zac rfl (fun hb => ?_) (fun hb => ?_) <;> (repeat (first | replace hb := Zam hb | replace hb := Zan hb)) <;> (try (exfalso; omega)))))
   all_goals (try (exfalso; omega))
   have hk9 : m = l.length := by omega
   subst hk9
   rw [List.take_length] at hpre
   refine ⟨.inr rfl, ret1 rfl (.tmp rfl) (List.nil_sublist _) ⟨congrArg exB ?_, rfl⟩⟩
   exact hpre.symm
set_option maxRecDepth 100000 in
theorem falling1_any (b T tot : Nat) (n m : Int) : FnC Tryz.prog 103 [exI .i64 n, ex (.pointer (some ⟨b, 0, none⟩))] [row b T tot [exI .i64 m]] (fun p loc => p = exB (inB n 0 m) ∧ loc = [row b T tot [exI .i64 n]]) := by
 refine Zb7 Tryz.func103 rfl Tryz.ntmps103 rfl fun w0 F0 out => ?_
 (repeat' (first | refine Za8 ?_ | refine Za1 ?_ | refine Za6 ?_ | (apply Za9; (first | exact Za3 rfl | exact Za4 rfl | (apply Za7; exact Zab (k := 0) rfl rfl rfl rfl)); exact rfl) | refine Zaq ?_ | (apply Zaj; exact rfl; first | (apply Zao; (refine Zaw Tryz.func81 rfl (within15_any _ _ _) rfl ?_; rintro _ _ ⟨rfl, rfl⟩)) | (apply Zav; refine Zal (k := 0) (l0 := []) rfl rfl rfl ?_))))
 refine ⟨.inr rfl, ret1 rfl (.tmp rfl) (List.Sublist.refl _) ⟨rfl, rfl⟩⟩
set_option maxHeartbeats 1000000 in
set_option maxRecDepth 100000 in
theorem allInt_fall (b T tot : Nat) (l : List Int) (m : Int) : FnC Tryz.prog 102 [isl eI l, clos (.func 103) [ex (.pointer (some ⟨b, 0, none⟩))]] [row b T tot [exI .i64 m]] (fun p loc => p = exB (fallF m l) ∧ ∃ n, loc = [row b T tot [exI .i64 n]]) := by
 refine Zbe (i := 0) rfl Zbl fun ha => ?_
 obtain ⟨ha, -⟩ := ha
 simp only [maxLen] at ha
 refine Zb7 Tryz.func102 rfl Tryz.ntmps102 rfl fun w0 F0 out => ?_
 (repeat' (first | refine Za8 ?_ | refine Za1 ?_ | refine Za6 ?_ | (apply Za9; (first | exact Za3 rfl | exact Za4 rfl | (apply Zax; exact Zb3 rfl rfl)); exact rfl) | refine Zaa ?_))
 refine Zbv (fun q : Nat => ([(1, clos (.func 103) [ex (.pointer (some ⟨b, 0, none⟩))]), (7, isl eI l), (8, exI .i64 l.length), (9, exI .i64 q)], [row b T tot [exI .i64 ((l.take q).getLastD m)]])) (fun q => q ≤ l.length ∧ fallF m (l.take q) = true) (fun q => l.length - q) 0 ?_ ⟨Nat.zero_le _, rfl⟩ fun q hq => ?_
 · exact Zae (by repeat (first | exact Zai | refine Zad rfl ?_)) (List.Sublist.refl _)
 obtain ⟨hq, hpre⟩ := hq
 by_cases hlt : q < l.length
 · have hcall := falling1_any b T tot l[q] ((l.take q).getLastD m)
   cases he : inB l[q] 0 ((l.take q).getLastD m)
   · rw [he] at hcall
     (repeat' (first | refine Za8 ?_ | refine Za1 ?_ | refine Za6 ?_ | (apply Za9; (first | exact Za3 rfl | exact Za4 rfl | (apply Za7; exact Zb1 rfl rfl) | (apply Zah; exact Zau rfl rfl) | (apply Zak; exact Zar rfl rfl rfl) | (apply g_un; exact Zbg rfl)); exact rfl) | refine Zaa ?_ | refine Zag ?_ | refine Zaq ?_ | refine Zb4 rfl ?_ | (apply Zaj; exact rfl; (apply Zao; (refine WO_callC (args := [_]) rfl (CapUp.refl _) (.one 0 rfl .nil) Tryz.func103 rfl hcall rfl ?_ (hH := hH_feet); rintro _ _ ⟨rfl, rfl⟩))) | (refine Zac rfl (fun hb => ?_) (fun hb => ?_) <;> (repeat (first | replace hb := Zam hb | replace hb := Zan hb)) <;> (try (exfalso; omega)))))
     all_goals (try (exfalso; first | contradiction | omega))
     refine ⟨.inr rfl, ret1 rfl (.tmp rfl) (List.Sublist.refl [row b T tot [exI .i64 l[q]]]) ⟨congrArg exB ?_, _, rfl⟩⟩
     have h2 : l = l.take q ++ (l[q] :: l.drop (q + 1)) := by rw [← List.drop_eq_getElem_cons, List.take_append_drop]
     rw [h2, fallF_split, fallF, he]; simp
   · rw [he] at hcall
     (repeat' (first | refine Za8 ?_ | refine Za1 ?_ | refine Za6 ?_ | (apply Za9; (first | exact Za3 rfl | exact Za4 rfl | (apply Za7; exact Zb1 rfl rfl) | (apply Zah; first | exact Zau rfl rfl | exact Zbf rfl rfl) | (apply Zak; exact Zar rfl rfl rfl) | (apply g_un; exact Zbg rfl)); exact rfl) | refine Zaa ?_ | refine Zag ?_ | refine Zb8 rfl ?_ | (apply Zaj; exact rfl; (apply Zao; (refine WO_callC (args := [_]) rfl (CapUp.refl _) (.one 0 rfl .nil) Tryz.func103 rfl hcall rfl ?_ (hH := hH_feet); rintro _ _ ⟨rfl, rfl⟩))) | (refine Zac rfl (fun hb => ?_) (fun hb => ?_) <;> (repeat (first | replace hb := Zam hb | replace hb := Zan hb)) <;> (try (exfalso; omega)))))
     all_goals (try (exfalso; first | contradiction | omega))
     refine ⟨q + 1, ⟨by omega, ?_⟩, by omega, ?_⟩
     · rw [List.take_succ_eq_append_getElem hlt, fallF_split, hpre, fallF, he]; rfl
     · rw [List.take_succ_eq_append_getElem hlt]
       simp only [List.getLastD_concat]
       exact Zae (by repeat (first | exact Zai | refine Zad rfl ?_)) (List.Sublist.refl [row b T tot [exI .i64 l[q]]])
 · (repeat' (first | refine Za8 ?_ | refine Za1 ?_ | refine Za6 ?_ | (apply Za9; (first | exact Za4 rfl | (apply Zah; exact Zau rfl rfl)); exact rfl) | refine Zaq ?_ | refine Zbk ?_ | (refine Zac rfl (fun hb => ?_) (fun hb => ?_) <;> (repeat (first | replace hb := Zam hb | replace hb := Zan hb)) <;> (try (exfalso; omega)))))
   all_goals (try (exfalso; omega))
   have hk9 : q = l.length := by omega
   subst hk9
   rw [List.take_length] at hpre
   refine ⟨.inr rfl, ret1 rfl (.tmp rfl) (List.Sublist.refl _) ⟨congrArg exB ?_, _, rfl⟩⟩
   exact hpre.symm
set_option maxRecDepth 100000 in
theorem falling_any (l : List Int) : FnC Tryz.prog 80 [isl eI l] [] (fun p loc => p = exB (fallF 1099511627776 l) ∧ loc = []) := by
 refine Zb7 Tryz.func80 rfl Tryz.ntmps80 rfl fun w0 F0 out => ?_
 (repeat' (first | (apply Za9; (apply g_mkfn; exact WT_mkclos (ps := [_]) rfl); exact rfl) | refine Za8 ?_ | refine Za1 ?_ | refine Za6 ?_ | (apply Za9; (first | exact Za3 rfl | exact Za4 rfl); exact rfl) | refine Zaq ?_ | (apply Zaj; exact rfl; first | (apply Zao; (refine Zby (.one 0 rfl .nil) Tryz.func102 rfl (allInt_fall _ _ _ _ _) rfl ?_; rintro _ _ ⟨rfl, n, rfl⟩)) | (apply Zbi; refine Zba ?_; intro _) | (apply Zav; refine Zal (k := 0) (l0 := []) rfl rfl rfl ?_))))
 refine ⟨.inr rfl, ret1 rfl (.tmp rfl) (List.nil_sublist _) ⟨rfl, rfl⟩⟩
end Go.Proofs.YthldagplhklbnaaGreatDoor
namespace Go.Proofs.YthldagplhklbnaaGreatDoor
open Go Go.RowKit Go.Kx Go.Fr
set_option maxHeartbeats 1000000 in
set_option maxRecDepth 100000 in
theorem walk15_any (l b1 b2 K : Nat) (xs : List Ex) (St Sp : List Ex → List Ent → Prop) (hY : ∀ pre y, (pre ++ [y]) <+: xs → YieldS Tryz.prog l [agg (exV K y)] (St pre) (fun r loc => (r = true ∧ St (pre ++ [y]) loc) ∨ (r = false ∧ Sp (pre ++ [y]) loc))) : ∀ (k : Nat) (x : Ex) (done : List Ex) (loc0 : List Ent), k ≤ K → (done ++ x.pre) <+: xs → St done loc0 → FnC Tryz.prog 91 [agg (exV k x), fpx b1 [ex (.func (.yield l) #[] #[])], fpx b2 [clos (.func 91) [fpx b1 [ex (.func (.yield l) #[] #[])], ex (.pointer (some ⟨b2, 0, none⟩))]]] loc0 (fun p loc' => (p = exB true ∧ St (done ++ x.pre) loc') ∨ (p = exB false ∧ ∃ pre, pre <+: xs ∧ Sp pre loc')) := by
 intro k
 induction k with
 | zero => intro x done loc0 _ _ _; exact Zbe (i := 0) rfl Says_ex0 fun h => h.elim
 | succ k ih =>
   intro x done loc0 hk hpx hS
   refine Zbe (i := 0) rfl (Zca (i := 4) (p := isl (eEx k) x.l) rfl Zbl) fun hlen => ?_
   obtain ⟨hlen, -⟩ := hlen
   simp only [maxLen] at hlen
   have hre : ∀ (q : Nat) (h : q < x.l.length) (loc1 : List Ent), St (done ++ x :: (x.l.take q).flatMap Ex.pre) loc1 → FnC Tryz.prog 91 [agg (exV k x.l[q]), fpx b1 [ex (.func (.yield l) #[] #[])], fpx b2 [clos (.func 91) [fpx b1 [ex (.func (.yield l) #[] #[])], ex (.pointer (some ⟨b2, 0, none⟩))]]] loc1 (fun p loc' => (p = exB true ∧ St (done ++ x :: (x.l.take (q + 1)).flatMap Ex.pre) loc') ∨ (p = exB false ∧ ∃ pre, pre <+: xs ∧ Sp pre loc')) := fun q h loc1 hs => by
     have e : done ++ x :: (x.l.take (q + 1)).flatMap Ex.pre = (done ++ x :: (x.l.take q).flatMap Ex.pre) ++ x.l[q].pre := by
       rw [List.take_succ_eq_append_getElem h, List.flatMap_append]; simp only [List.flatMap_cons, List.flatMap_nil, List.append_nil, List.append_assoc, List.cons_append]
     rw [e]
     refine ih _ _ _ (by omega) ?_ hs
     rw [← e]
     refine List.IsPrefix.trans ?_ hpx
     rw [Ex.pre_l]
     refine (List.prefix_append_right_inj _).2 ?_
     rw [List.cons_prefix_cons]
     refine ⟨rfl, ?_⟩
     refine ⟨(x.l.drop (q + 1)).flatMap Ex.pre, ?_⟩
     rw [← List.flatMap_append, List.take_append_drop]
   clear ih
   have hy : YieldS Tryz.prog l [agg [exI .i64 x.kind, exT x.name, exI .i64 x.n, exI .i64 x.d, isl (eEx k) x.l]] (St done) (fun r loc => (r = true ∧ St (done ++ [x]) loc) ∨ (r = false ∧ ∃ pre, pre <+: xs ∧ Sp pre loc)) := by
     have hpx1 : (done ++ [x]) <+: xs := List.IsPrefix.trans (by rw [Ex.pre_l]; exact (List.prefix_append_right_inj _).2 ⟨_, rfl⟩) hpx
     refine YieldS.mono (YieldS.args (hY done x hpx1) (.cons (exV_le hk x).agg .nil)) ?_
     rintro r loc (h | ⟨h, h2⟩)
     · exact .inl h
     · exact .inr ⟨h, _, hpx1, h2⟩
   show FnC Tryz.prog 91 [agg [exI .i64 x.kind, exT x.name, exI .i64 x.n, exI .i64 x.d, isl (eEx k) x.l], fpx b1 [ex (.func (.yield l) #[] #[])], fpx b2 [clos (.func 91) [fpx b1 [ex (.func (.yield l) #[] #[])], ex (.pointer (some ⟨b2, 0, none⟩))]]] loc0 _
   rw [Ex.pre_l]
   refine Zb7 Tryz.func91 rfl Tryz.ntmps91 rfl fun w0 F0 out => ?_
   (repeat' (first | (apply Zbh 1; refine Stop.out ?_) | refine Za8 ?_ | refine Za1 ?_ | refine Za6 ?_ | (apply Za9; (exact Za4 rfl); exact rfl) | (apply Zaj; exact rfl; (apply Zc9; refine Zbz rfl ?_; intro _))))
   rename_i b3
   refine ⟨Zbn (Zch (k := 0) (t := 3) rfl rfl) (WP_regionI (n := 5) ?_)⟩
   (repeat' (first | (apply WPI_u; exact rfl; (first | (apply Za7; first | exact Zcf rfl rfl | exact WT_loadfa2 rfl rfl)); exact rfl)))
   refine WPI_yieldS rfl hy rfl (Takes.suffix (pre := []) _) hS ?_
   rintro r loc1 (⟨rfl, hS1⟩ | ⟨rfl, pre, hpre, hSp⟩)
   · (repeat' (first | refine WPI_nil ?_ | (apply WPI_u; exact rfl; (first | (apply g_un; first | exact Zbg rfl)); exact rfl)))
     (repeat' (first | refine Za8 ?_ | refine Za1 ?_ | refine Za6 ?_ | (apply Za9; (first | exact Za3 rfl | (apply Za7; exact Zb1 rfl rfl) | (apply Zat; exact Zay rfl rfl rfl) | (apply Zax; exact Zb3 rfl rfl)); exact rfl) | refine Zaa ?_ | refine Zag ?_ | refine Zb8 rfl ?_))
     refine Zbv (fun s : Nat × List Ent => ([(1, fpx b1 [ex (.func (.yield l) #[] #[])]), (2, fpx b2 [clos (.func 91) [fpx b1 [ex (.func (.yield l) #[] #[])], ex (.pointer (some ⟨b2, 0, none⟩))]]), (12, isl (eEx k) x.l), (13, exI .i64 x.l.length), (14, exI .i64 s.1)], s.2)) (fun s => s.1 ≤ x.l.length ∧ St (done ++ x :: (x.l.take s.1).flatMap Ex.pre) s.2) (fun s => x.l.length - s.1) (0, loc1) ?_ ⟨Nat.zero_le _, hS1⟩ fun s hs => ?_
     · exact Zae (by repeat (first | exact Zai | refine Zad rfl ?_)) (by simp)
     obtain ⟨q, loc2⟩ := s
     obtain ⟨hq, hS2⟩ := hs
     simp only at hq hS2 ⊢
     by_cases hlt : q < x.l.length
     · have hcall := hre q hlt loc2 hS2
       (repeat' (first | refine Za8 ?_ | refine Za1 ?_ | refine Za6 ?_ | (apply Za9; (first | exact Za3 rfl | exact Za4 rfl | (apply Za7; first | exact Zcf rfl rfl | exact Zb2 rfl rfl | exact Zb6 (k := 0) rfl rfl rfl) | (apply Zah; first | exact Zau rfl rfl | exact Zbf rfl rfl) | (apply Zak; exact Zar rfl rfl rfl) | (apply g_un; exact Zbg rfl)); exact rfl) | refine Zaa ?_ | refine Zag ?_ | refine Zaq ?_ | refine Zb4 rfl ?_ | refine Zb8 rfl ?_ | (apply Zaj; exact rfl; first | (apply Zao; (refine WO_callC (args := [_]) rfl (.keep (.slot 2 rfl (fun _ _ _ h => h.1) .nil)) (Takes.suffix (pre := [_]) _) Tryz.func91 rfl hcall rfl ?_ (hH := hH_feet); rintro _ loc3 (⟨rfl, hS3⟩ | ⟨rfl, pre, hpre, hSp⟩))) | (apply Zbi; refine Zba ?_; intro _) | (apply Zav; refine Zal (k := 0) (l0 := []) rfl rfl rfl ?_)) | (refine Zac rfl (fun hb => ?_) (fun hb => ?_) <;> (repeat (first | replace hb := Zam hb | replace hb := Zan hb)) <;> (try (exfalso; omega)))))
       all_goals (try (exfalso; first | contradiction | omega))
       · refine ⟨(q + 1, loc3), ⟨by show q + 1 ≤ _; omega, hS3⟩, by show x.l.length - (q + 1) < x.l.length - q; omega, Zae (by repeat (first | exact Zai | refine Zad rfl ?_)) (List.sublist_append_left _ _)⟩
       · exact ⟨.inr rfl, ret1 rfl (.tmp rfl) (List.sublist_append_left _ _) (.inr ⟨rfl, pre, hpre, hSp⟩)⟩
     · have hk9 : q = x.l.length := by omega
       subst hk9
       rw [List.take_length] at hS2
       (repeat' (first | refine Za8 ?_ | refine Za1 ?_ | refine Za6 ?_ | (apply Za9; (first | exact Za4 rfl | (apply Zah; exact Zau rfl rfl)); exact rfl) | refine Zaq ?_ | refine Zbk ?_ | (refine Zac rfl (fun hb => ?_) (fun hb => ?_) <;> (repeat (first | replace hb := Zam hb | replace hb := Zan hb)) <;> (try (exfalso; omega)))))
       all_goals (try (exfalso; omega))
       exact ⟨.inr rfl, ret1 rfl (.tmp rfl) (List.Sublist.refl _) (.inl ⟨rfl, hS2⟩)⟩
   · (repeat' (first | refine WPI_nil ?_ | (apply WPI_u; exact rfl; (first | (apply g_un; first | exact Zbg rfl)); exact rfl)))
     (repeat' (first | refine Za8 ?_ | refine Za1 ?_ | refine Za6 ?_ | (apply Za9; (first | exact Za4 rfl); exact rfl) | refine Zaq ?_ | refine Zb4 rfl ?_))
     exact ⟨.inr rfl, ret1 rfl (.tmp rfl) (List.sublist_append_left _ _) (.inr ⟨rfl, pre, hpre, hSp⟩)⟩
set_option maxHeartbeats 1000000 in
set_option maxRecDepth 100000 in
theorem parts1_gen (K : Nat) (x : Ex) : GenS Tryz.prog 90 [fp (exV (K + 1) x)] (fun y => [agg (exV (K + 1) y)]) x.pre := by
 intro l St Sp loc0 hS hY
 show FnC Tryz.prog 90 [ex (.func (.yield l) #[] #[]), fp [exI .i64 x.kind, exT x.name, exI .i64 x.n, exI .i64 x.d, isl (eEx K) x.l]] loc0 _
 have hw := fun b1 b2 => walk15_any l b1 b2 (K + 1) x.pre St Sp hY (K + 1) x [] loc0 (Nat.le_refl _) (List.prefix_refl _) hS
 refine Zb7 Tryz.func90 rfl Tryz.ntmps90 rfl fun w0 F0 out => ?_
 (repeat' (first | (apply Zbh 1; refine Stop.out ?_) | refine Za8 ?_ | refine Za1 ?_ | refine Za6 ?_ | (apply Zaj; exact rfl; (apply Zc9; refine Zbz rfl ?_; intro _))))
 rename_i b1
 refine ⟨Zbn (Leads_fpx (k := 0) (t := 2) rfl rfl) ?_⟩
 (repeat' (first | (apply Zbh 3; refine Stop.out ?_) | (apply Za9; (apply g_mkfn; exact WT_mkclos (ps := [_, _]) rfl); exact rfl) | refine Za8 ?_ | refine Za1 ?_ | refine Za6 ?_ | (apply Zaj; exact rfl; first | (apply Zbi; refine Zba ?_; intro _) | (apply Zav; refine Zal (k := 0) (l0 := []) rfl rfl rfl ?_))))
 rename_i b2
 have hcall := hw b1 b2
 refine ⟨Zbn (Leads_fpx (k := 0) (t := 3) rfl rfl) ?_⟩
 (repeat' (first | refine Za1 ?_ | refine Za6 ?_ | (apply Za9; ((apply Za7; first | exact Zcf rfl rfl | exact WT_loadfa2 rfl rfl)); exact rfl) | (apply Zaj; exact rfl; (apply Zao; (refine WO_callC (args := [_]) rfl (.keep (.slot 3 rfl (fun _ _ _ h => h.1) .nil)) (Takes.suffix (pre := []) _) Tryz.func91 rfl hcall rfl ?_ (hH := hH_feet); rintro _ loc3 (⟨rfl, hS3⟩ | ⟨rfl, pre, hpre, hSp⟩))))))
 · exact ⟨.inl rfl, ret0 rfl (List.sublist_append_left _ _) (.inl hS3)⟩
 · exact ⟨.inl rfl, ret0 rfl (List.sublist_append_left _ _) (.inr ⟨pre, hpre, hSp⟩)⟩
set_option maxRecDepth 100000 in
theorem parts15_any (K : Nat) (x : Ex) : FnC Tryz.prog 41 [agg (exV K x)] [] (fun p loc => (∃ j, K = j + 1 ∧ p = clo 90 [fp (exV (j + 1) x)]) ∧ loc = []) := by
 cases K with
 | zero => exact Zbe (i := 0) rfl Says_ex0 fun h => h.elim
 | succ K =>
   show FnC Tryz.prog 41 [agg [exI .i64 x.kind, exT x.name, exI .i64 x.n, exI .i64 x.d, isl (eEx K) x.l]] [] _
   refine Zb7 Tryz.func41 rfl Tryz.ntmps41 rfl fun w0 F0 out => ?_
   (repeat' (first | (apply Zbh 1; refine Stop.out ?_) | refine Za8 ?_ | refine Za1 ?_ | refine Za6 ?_ | (apply Za9; (exact Za4 rfl); exact rfl) | (apply Zaj; exact rfl; (apply Zc9; refine Zbz rfl ?_; intro _))))
   rename_i b1
   refine ⟨Zbn (Zch (k := 0) (t := 1) rfl rfl) ?_⟩
   (repeat' (first | (apply Za9; (apply g_mkfn; exact WT_mkclos (ps := [_]) rfl); exact rfl) | refine Za1 ?_ | refine Za6 ?_ | (apply Za9; (exact Za4 rfl); exact rfl) | refine Zaq ?_))
   exact ⟨.inr rfl, ret1 rfl (.tmp rfl) (List.nil_sublist _) ⟨⟨K, rfl, rfl⟩, rfl⟩⟩
end Go.Proofs.YthldagplhklbnaaGreatDoor
namespace Go.Fr
open Go.RowKit Go.Kx
def shapeV (s : Int × Bool × Bool) : SP := agg [exI .i64 s.1, exB s.2.1, exB s.2.2]
def shapesM : List (Int × SP) := [(1, shapeV (0, true, false)), (2, shapeV (0, false, true)), (3, shapeV (0, false, false)), (4, shapeV (0, false, false)), (5, shapeV (0, false, true)), (6, shapeV (2, false, false)), (7, shapeV (2, false, false)), (8, shapeV (1, true, false)), (9, shapeV (2, false, false)), (10, shapeV (2, false, false)), (11, shapeV (4, false, false))]
theorem mlook_shapes (k : Int) : mlook shapesM k = (shapeF k).map shapeV := by
 simp only [shapesM, mlook, shapeF]
 repeat' split
 all_goals (try omega)
 all_goals rfl
end Go.Fr
namespace Go.Proofs.YthldagplhklbnaaGreatDoor
open Go Go.RowKit Go.Kx Go.Fr
set_option maxHeartbeats 1000000 in
set_option maxRecDepth 100000 in
theorem shapes15_any : FnC Tryz.prog 104 [] [] (fun p loc => p = fmap shapesM ∧ loc = []) := by
 refine Zb7 Tryz.func104 rfl Tryz.ntmps104 rfl fun w0 F0 out => ?_
 (repeat' (first | (apply Zaj; exact rfl; apply g_mkmap; refine WO_mkmap (κ := Int) ?_; intro _) | (apply Zaj; exact rfl; apply Zbo; refine Zbc (κ := Int) (j := 0) (.inr rfl) rfl rfl rfl rfl rfl rfl ⟨_, rfl⟩ ?_) | refine Za8 ?_ | refine Za1 ?_ | refine Za6 ?_ | (apply Za9; (first | exact Za3 rfl | exact Za4 rfl | (apply g_build; exact WT_build2 rfl rfl (by repeat (first | exact PartsO.nil | (apply PartsO.cons; exact rfl; exact inferInstance; exact rfl; exact rfl))))); exact rfl) | refine Zaq ?_))
 apply retP_leads
 apply Leads_fmap (k := 0) (t := 0) (m := shapesM)
 · simp only [List.set_cons_zero, List.getElem?_cons_zero, mput, shapesM, shapeV, Int.reduceEq, if_false]; rfl
 · rfl
 exact ⟨.inr rfl, ret1 rfl (.tmp rfl) (List.nil_sublist _) ⟨rfl, rfl⟩⟩
def exprQ (b2 : Nat) (pre : List Ex) (y : Ex) : Post := fun e _ loc' => (e = .normal ∧ (loc' = [row b2 4 1 [ex (.bool false)]] ∧ ∀ z ∈ pre ++ [y], z.node = true)) ∨ (e = .ret ∧ (loc' = [row b2 4 1 [ex (.bool false)]] ∧ ∃ z ∈ pre ++ [y], z.node = false))
theorem exprQ_ret {C : Cx} {b2 : Nat} {pre : List Ex} {y : Ex} {env : Env} {loc : List Ent} (hn : y.node = false) (hs : [row b2 4 1 [ex (.bool false)]].Sublist loc) : loose C (exprQ b2 pre y) .ret env loc := ⟨env, _, Zae (fun _ _ h => h) hs, .inr ⟨rfl, rfl, y, by simp, hn⟩⟩
theorem exprQ_nor {C : Cx} {b2 : Nat} {pre : List Ex} {y : Ex} {env : Env} {loc : List Ent} (hS : ∀ y ∈ pre, y.node = true) (hn : y.node = true) (hs : [row b2 4 1 [ex (.bool false)]].Sublist loc) : loose C (exprQ b2 pre y) .normal env loc := ⟨env, _, Zae (fun _ _ h => h) hs, .inl ⟨rfl, rfl, fun z hz => by
   rcases List.mem_append.1 hz with h | h
   · exact hS z h
   · rw [List.mem_singleton.1 h]; exact hn⟩⟩
set_option maxHeartbeats 2000000 in
set_option maxRecDepth 100000 in
theorem expr15_any : ∀ (k : Nat) (x : Ex), FnC Tryz.prog 88 [agg (exV k x)] [] (fun p loc => p = exB x.fine ∧ loc = []) := by
 intro k x
 cases k with
 | zero => exact Zbe (i := 0) rfl Says_ex0 fun h => h.elim
 | succ k =>
   rw [Ex.fine_pre]
   show FnC Tryz.prog 88 [agg [exI .i64 x.kind, exT x.name, exI .i64 x.n, exI .i64 x.d, isl (eEx k) x.l]] [] _
   have hparts : FnC Tryz.prog 41 [agg [exI .i64 x.kind, exT x.name, exI .i64 x.n, exI .i64 x.d, isl (eEx k) x.l]] [] (fun p loc => (∃ j, k + 1 = j + 1 ∧ p = clo 90 [fp (exV (j + 1) x)]) ∧ loc = []) := parts15_any (k + 1) x
   refine FnC_enterM Tryz.func88 rfl Tryz.ntmps88 rfl fun w0 F0 out => ?_
   (repeat' (first | (apply at_range; refine Stop.out ?_) | refine WPR_deep ?_ | refine Zcr ?_ | refine Za1 ?_ | refine Za6 ?_ | (apply Za9; ((apply Za7; exact Zb6 (k := 2) rfl rfl rfl)); exact rfl) | (apply Zaj; exact rfl; first | (apply Zao; first | (refine Zaw Tryz.func104 rfl shapes15_any rfl ?_; rintro _ _ ⟨rfl, rfl⟩) | (refine Zaw Tryz.func41 rfl hparts rfl ?_; rintro _ _ ⟨⟨j, hj, rfl⟩, rfl⟩)) | (apply Zc9; refine Zbz rfl ?_; intro _) | (apply Zbi; refine Zba ?_; intro _) | (apply Zav; refine Zal (k := 0) (l0 := []) rfl rfl rfl ?_))))
   refine ⟨?_⟩
   cases hj
   rename_i b1 b2 b3
   refine WPR_leads (Leads_fpx (k := 0) (t := 3) rfl rfl) ?_
   refine WPR_leads (Zae (env' := [(2, ex (.pointer (some ⟨b2, 0, none⟩))), (3, fpx b3 [fmap shapesM]), (9, clo 90 [fp (exV (k + 1) x)])]) (loc' := [row b2 4 1 [ex (.bool false)]]) (by repeat (first | exact Zai | refine Zad rfl ?_)) (List.Sublist.cons_cons (row b2 4 1 [ex (.bool false)]) (List.nil_sublist [_]))) ?_
   refine WPR_rangeS (α := Ex) (gf := 90) (fng := Tryz.f90) (lb := [fp (exV (k + 1) x)]) (encs := fun y => [agg (exV (k + 1) y)]) (bl := [row b2 4 1 [ex (.bool false)]]) (l2 := []) x.pre (fun pre loc => loc = [row b2 4 1 [ex (.bool false)]] ∧ ∀ y ∈ pre, y.node = true) (fun pre loc => loc = [row b2 4 1 [ex (.bool false)]] ∧ ∃ y ∈ pre, y.node = false) (fun y e => (4, fp (exV (k + 1) y)) :: e) rfl Tryz.func90 rfl rfl (parts1_gen k x) (fun _ => rfl) (fun t ht => by simp at ht; subst ht; rfl) ⟨rfl, fun y hy => by cases hy⟩ ?_ ?_ ?_ ?_
   · intro Cb l m pre y inn hP hN hpre hS
     obtain ⟨P1, w1, F1, X1, out1, N1, d1⟩ := Cb
     dsimp only at hP hN
     subst hP hN
     obtain ⟨rfl, hS⟩ := hS
     refine WPC_loose ?_
     (repeat' (first | refine WPC_region ?_ | refine WPI_nil ?_ | (apply WPI_opu; exact rfl; exact rfl; first | (apply Zbi; refine Zba ?_; intro _) | (apply Zav; refine Zal (k := 0) (l0 := []) rfl rfl rfl ?_))))
     exact ⟨_, _, (Zch (k := 0) (t := 4) rfl rfl).trans (Zae (by repeat (first | exact Zai | refine Zad rfl ?_)) (List.Sublist.refl _)), rfl, rfl, rfl⟩
   · intro Cb l m pre y inn hP hN hpre hS
     obtain ⟨P1, w1, F1, X1, out1, N1, d1⟩ := Cb
     dsimp only at hP hN
     subst hP hN
     obtain ⟨rfl, hS⟩ := hS
     change WPC _ _ _ _ (exprQ b2 pre y) _ _
     refine WPC_loose ?_
     have hm := mlook_shapes y.kind
     cases hs : shapeF y.kind with
     | none =>
       rw [hs] at hm
       simp only [Option.map_none] at hm
       have hn : y.node = false := by simp only [Ex.node, hs]
       (repeat' (first | refine WPC_seq ?_ | refine WPC_region ?_ | (apply WPI_u; exact rfl; (first | (apply Za7; first | exact Zcf rfl rfl | exact Zb1 rfl rfl) | (apply Zat; exact Zay rfl rfl rfl)); exact rfl) | refine WPC_blk ?_))
       refine WPI_u rfl (WT_lookf0 (k := y.kind) rfl rfl hm rfl rfl ⟨_, rfl⟩) rfl ?_
       refine WPI_leads (Leads_up (t := 15) (q := tup [agg [ex (.int .i64 0), ex (.bool false), ex (.bool false)], exB false]) rfl (Ims.tup (.cons (Im_exagg (vs := [.int .i64 0, .bool false, .bool false])) (.cons (Im.refl _) .nil)))) ?_
       (repeat' (first | refine WPC_seq ?_ | refine WPC_region ?_ | refine WPI_nil ?_ | (apply WPI_u; exact rfl; (first | exact Za3 rfl | exact Za4 rfl | exact Zas (b := true) rfl (fun _ => rfl) (fun e => by cases e) | exact Zb5 rfl rfl | (apply g_un; exact Zbg rfl)); exact rfl) | (refine WPI_off rfl rfl rfl rfl rfl ?_) | (refine WPI_offu rfl rfl rfl rfl ?_) | refine WPC_ret ?_ | refine WPC_cond_t rfl ?_ | (apply WPI_opu; exact rfl; exact rfl; first | (apply Zbi; refine Zba ?_; intro _) | (apply Zav; first | refine Zal (k := 0) (l0 := []) rfl rfl rfl ?_ | refine Zal (k := 1) (l0 := []) rfl rfl rfl ?_))))
       all_goals (refine exprQ_ret hn (by first | exact List.Sublist.refl [row b2 4 1 [ex (.bool false)]] | exact List.Sublist.cons _ (List.Sublist.refl [row b2 4 1 [ex (.bool false)]])))
     | some s =>
       obtain ⟨np, num, ref⟩ := s
       rw [hs] at hm
       have hn : y.node = decide ((y.l.length : Int) = np ∧ (ref = false → y.name = []) ∧ (if num then (0 ≤ y.n ∧ y.n ≤ 1099511627776 ∧ 1 ≤ y.d ∧ y.d ≤ 1099511627776) else (y.d = 0 ∧ (ref = false → y.n = 0)))) := by simp only [Ex.node, hs]
       simp only [Option.map_some, shapeV] at hm
       cases num <;> cases ref
       all_goals ((repeat' (first | (apply WPI_u; exact rfl; (apply Zc4; exact WT_lookf (k := y.kind) rfl rfl hm rfl rfl ⟨_, rfl⟩); exact rfl) | refine WPC_seq ?_ | refine WPC_region ?_ | refine WPI_nil ?_ | (apply WPI_u; exact rfl; (first | exact Za3 rfl | exact Za4 rfl | exact Zas (b := true) rfl (fun _ => rfl) (fun e => by cases e) | exact Zas (b := false) rfl (fun e => by cases e) (fun _ => rfl) | exact Zb5 rfl rfl | (apply Za7; first | exact Zcf rfl rfl | exact Zb1 rfl rfl | exact Zab (k := 0) rfl rfl rfl rfl) | (apply Zat; first | exact Zaf rfl rfl rfl | exact Zay rfl rfl rfl) | (apply Zah; exact Zc3 rfl rfl) | (apply g_un; exact Zbg rfl)); exact rfl) | (refine WPI_off rfl rfl rfl rfl rfl ?_) | (refine WPI_offu rfl rfl rfl rfl ?_) | (apply WPI_gu; exact rfl; exact rfl; exact rfl; exact rfl; (first | exact Za3 rfl | exact Zas (b := true) rfl (fun _ => rfl) (fun e => by cases e) | exact Zas (b := false) rfl (fun e => by cases e) (fun _ => rfl) | (apply Za7; first | exact Zb1 rfl rfl | exact Zab (k := 0) rfl rfl rfl rfl) | (apply Zat; first | exact Zaf rfl rfl rfl | exact Zay rfl rfl rfl) | (apply Zah; first | exact WT_tne rfl rfl | exact Zc3 rfl rfl) | (apply Zax; exact Zb3 rfl rfl) | (apply g_un; exact Zbg rfl)); exact rfl) | refine WPC_blk ?_ | refine WPC_skip ?_ | refine WPC_ret ?_ | refine WPC_cond_t rfl ?_ | refine WPC_cond_f rfl ?_ | (apply WPI_opu; exact rfl; exact rfl; first | (apply Zao; (refine Zaw Tryz.func81 rfl (within15_any _ _ _) rfl ?_; rintro _ _ ⟨rfl, rfl⟩)) | (apply Zbi; refine Zba ?_; intro _) | (apply Zav; first | refine Zal (k := 0) (l0 := []) rfl rfl rfl ?_ | refine Zal (k := 1) (l0 := []) rfl rfl rfl ?_)) | (apply WPI_onu; exact rfl; exact rfl; exact rfl; exact rfl; exact rfl; (apply Zao; (refine Zaw Tryz.func81 rfl (within15_any _ _ _) rfl ?_; rintro _ _ ⟨rfl, rfl⟩))) | (refine WPI_case rfl rfl (fun hb => ?_) (fun hb => ?_) <;> (repeat (first | replace hb := Zam hb | replace hb := Zan hb | replace hb := Zbr hb | replace hb := Zbs hb)) <;> (try (exfalso; fail))) | (refine WPC_cond rfl (fun hb => ?_) (fun hb => ?_) <;> (repeat (first | replace hb := Zam hb | replace hb := Zan hb | replace hb := Zbr hb | replace hb := Zbs hb)) <;> (try (exfalso; fail))))))
       all_goals (first | refine exprQ_ret ?_ (by first | exact List.Sublist.refl [row b2 4 1 [ex (.bool false)]] | exact List.Sublist.cons _ (List.Sublist.refl [row b2 4 1 [ex (.bool false)]])) | refine exprQ_nor hS ?_ (by first | exact List.Sublist.refl [row b2 4 1 [ex (.bool false)]] | exact List.Sublist.cons _ (List.Sublist.refl [row b2 4 1 [ex (.bool false)]])))
       all_goals rw [hn]
       all_goals clear hn hm hparts hS
       all_goals (first | (rw [decide_eq_true_iff]; simp_all; done) | (rw [decide_eq_false_iff_not]; simp_all; done) | (rw [decide_eq_false_iff_not]; rintro ⟨h1, h2, h3⟩; simp only [if_true] at h3; omega))
   · intro D bl' hD hS
     obtain ⟨rfl, hS⟩ := hS
     refine raw_next rfl ?_
     (repeat' (first | refine Zcr ?_ | refine WPR_ret ?_ | refine Za1 ?_ | refine Za6 ?_ | (apply Zaj; exact rfl; (apply Zav; refine Zal (k := 0) (l0 := []) rfl rfl rfl ?_))))
     refine raw_ret1 rfl hD ?_
     refine ⟨.inr rfl, ret1 rfl (.cell1 (k := 0) rfl rfl rfl rfl rfl) (List.nil_sublist _) ⟨congrArg exB ?_, rfl⟩⟩
     exact (List.all_eq_true.2 hS).symm
   · intro D pre bl' hD hpre hS
     obtain ⟨rfl, y, hy, hn⟩ := hS
     refine raw_past (raw_ret1 rfl hD ?_)
     refine ⟨.inr rfl, ret1 rfl (.cell1 (k := 0) rfl rfl rfl rfl rfl) (List.nil_sublist _) ⟨congrArg exB ?_, rfl⟩⟩
     symm
     rw [Bool.eq_false_iff]
     intro h
     rw [List.all_eq_true.1 h y (hpre.subset hy)] at hn
     cases hn
end Go.Proofs.YthldagplhklbnaaGreatDoor
namespace Go.Proofs.YthldagplhklbnaaGreatDoor
open Go Go.RowKit Go.Kx Go.Fr
set_option maxRecDepth 100000 in
theorem formed1_any (t : TieD) : FnC Tryz.prog 83 [agg (tieV t)] [] (fun p loc => p = exB t.fine ∧ loc = []) := by
 unfold tieV
 have hc := allKey_cst t.keys KeyD.fine 84 Tryz.f84 _ Tryz.func84 rfl rfl (fun q _ => key15_any q)
 refine Zb7 Tryz.func83 rfl Tryz.ntmps83 rfl fun w0 F0 out => ?_
 (repeat' (first | refine Za8 ?_ | refine Za1 ?_ | refine Za6 ?_ | (apply Za9; (first | exact Za3 rfl | exact Za4 rfl | exact Zas (b := true) rfl (fun _ => rfl) (fun e => by cases e) | exact Zas (b := false) rfl (fun e => by cases e) (fun _ => rfl) | (apply Za7; exact Zab (k := 0) rfl rfl rfl rfl) | (apply Zat; exact Zaf rfl rfl rfl) | (apply Zah; exact Zcc rfl rfl) | (apply Zax; exact Zb3 rfl rfl)); exact rfl) | (refine Zbq rfl rfl rfl rfl rfl ?_) | (apply Zbt; exact rfl; exact rfl; exact rfl; (first | (apply Za7; exact Zab (k := 0) rfl rfl rfl rfl) | (apply Zat; exact Zaf rfl rfl rfl)); exact rfl) | refine Zaq ?_ | (apply Zaj; exact rfl; (apply Zc9; refine Zbz rfl ?_; intro _)) | (apply Zc8; exact rfl; exact rfl; exact rfl; exact rfl; (apply Zao; (refine Zaw Tryz.func42 rfl hc rfl ?_; rintro _ _ ⟨rfl, rfl⟩))) | (refine Zbm rfl rfl (fun hb => ?_) (fun hb => ?_) <;> (repeat (first | replace hb := Zam hb | replace hb := Zan hb)) <;> (try (exfalso; fail)))))
 all_goals (refine ⟨.inr rfl, ret1 rfl (.tmp rfl) (List.nil_sublist _) ⟨congrArg exB ?_, rfl⟩⟩)
 all_goals (simp only [TieD.fine])
 all_goals (first | (rw [Bool.eq_iff_iff]; simp; omega) | simp_all)
set_option maxRecDepth 100000 in
theorem formed21_any (k : Nat) (c : Crit) (y : RoundD) (h : 1 ≤ y.panel ∧ y.panel ≤ 256) : FnC Tryz.prog 87 [agg (critV c), fp (roundV k y)] [] (fun p loc => p = exB (decide (2 * c.trim < y.panel)) ∧ loc = []) := by
 unfold critV roundV
 refine Zb7 Tryz.func87 rfl Tryz.ntmps87 rfl fun w0 F0 out => ?_
 (repeat' (first | refine Za8 ?_ | refine Za1 ?_ | refine Za6 ?_ | (apply Za9; (first | exact Za4 rfl | (apply Za7; first | exact Zb1 rfl rfl | exact Zab (k := 0) rfl rfl rfl rfl) | (apply Zat; first | exact Zaf rfl rfl rfl | exact Zay rfl rfl rfl) | (apply Zah; first | exact Zau rfl rfl | exact Zbf rfl rfl | exact WT_quoz rfl rfl)); exact rfl) | refine Zaq ?_ | (apply Zaj; exact rfl; (apply Zc9; refine Zbz rfl ?_; intro _))))
 all_goals (refine ⟨.inr rfl, ret1 rfl (.tmp rfl) (List.nil_sublist _) ⟨congrArg exB ?_, rfl⟩⟩)
 all_goals (rw [Bool.eq_iff_iff]; simp only [decide_eq_true_eq]; omega)
set_option maxHeartbeats 1000000 in
set_option maxRecDepth 100000 in
theorem formed2_any (k : Nat) (r : RulesD) (y : RoundD) : FnC Tryz.prog 86 [agg (roundV k y), fp (rulesV k r)] [] (fun p loc => p = exB (y.fine r.crits) ∧ loc = []) := by
 cases k with
 | zero => exact Zbe (i := 0) rfl (Zca (i := 10) (p := noSP) (q := False) rfl ⟨fun h => h⟩) fun h => h.elim
 | succ k =>
 have hc : ∀ h : 1 ≤ y.panel ∧ y.panel ≤ 256, FnC Tryz.prog 76 [isl eCrit r.crits, clos (.func 87) [fp (roundV (k + 1) y)]] [] _ := fun h => allCrit_any r.crits (fun c => decide (2 * c.trim < y.panel)) 87 Tryz.f87 _ Tryz.func87 rfl rfl [fp (roundV (k + 1) y)] (fun c _ => formed21_any (k + 1) c y h)
 have hx : FnC Tryz.prog 88 [agg [exI .i64 y.score.kind, exT y.score.name, exI .i64 y.score.n, exI .i64 y.score.d, isl (eEx k) y.score.l]] [] (fun p loc => p = exB y.score.fine ∧ loc = []) := expr15_any (k + 1) y.score
 have hz : ∀ e : Ex, decide (e = Ex.zero) = decide (e.kind = 0 ∧ e.name = [] ∧ e.n = 0 ∧ e.d = 0 ∧ e.l.length = 0) := fun e => by
   rw [decide_eq_decide, Ex.ext_iff']
   show (e.kind = 0 ∧ e.name = [] ∧ e.n = 0 ∧ e.d = 0 ∧ e.l = []) ↔ _
   rw [List.length_eq_zero_iff]
 simp only [RoundD.fine, hz]
 show FnC Tryz.prog 86 [agg [exT y.name, exI .i64 y.panel, exI .i64 y.quota, exI .i64 y.cut, exB y.places, exB y.free, exI .i64 y.score.kind, exT y.score.name, exI .i64 y.score.n, exI .i64 y.score.d, isl (eEx k) y.score.l, exT y.tie, exI .i64 y.tieNo], fp (rulesV (k + 1) r)] [] _
 refine Zb7 Tryz.func86 rfl Tryz.ntmps86 rfl fun w0 F0 out => ?_
 (repeat' (first | (apply Zbh 1; refine Stop.out ?_) | refine Za8 ?_ | refine Za1 ?_ | refine Za6 ?_ | (apply Za9; (exact Za4 rfl); exact rfl) | (apply Zaj; exact rfl; (apply Zc9; refine Zbz rfl ?_; intro _))))
 rename_i b2
 refine ⟨Zbn (Zch (k := 0) (t := 2) rfl rfl) ?_⟩
 (repeat' (first | (apply Zbh 3; refine Stop.out ?_) | refine Za8 ?_ | refine Za1 ?_ | refine Za6 ?_ | (apply Za9; (first | exact Za3 rfl | exact Za4 rfl | exact Zas (b := true) rfl (fun _ => rfl) (fun e => by cases e) | exact Zas (b := false) rfl (fun e => by cases e) (fun _ => rfl) | (apply Za7; exact Zb1 rfl rfl) | (apply Zat; exact Zay rfl rfl rfl) | (apply g_un; exact Zbg rfl)); exact rfl) | (refine Zbq rfl rfl rfl rfl rfl ?_) | (apply Zbt; exact rfl; exact rfl; exact rfl; (first | (apply Za7; exact Zb1 rfl rfl) | (apply Zat; exact Zay rfl rfl rfl) | (apply g_un; exact Zbg rfl)); exact rfl) | refine Zag ?_ | refine Zaq ?_ | refine Zb4 rfl ?_ | (apply Zaj; exact rfl; (apply Zao; (refine Zaw Tryz.func81 rfl (within15_any _ _ _) rfl ?_; rintro _ _ ⟨rfl, rfl⟩))) | (apply Zc8; exact rfl; exact rfl; exact rfl; exact rfl; (apply Zao; (refine Zaw Tryz.func81 rfl (within15_any _ _ _) rfl ?_; rintro _ _ ⟨rfl, rfl⟩))) | (refine Zbm rfl rfl (fun hb => ?_) (fun hb => ?_) <;> (repeat (first | replace hb := Zam hb | replace hb := Zan hb | replace hb := Zbr hb | replace hb := Zbs hb)) <;> (try (exfalso; fail))) | (refine Zac rfl (fun hb => ?_) (fun hb => ?_) <;> (repeat (first | replace hb := Zam hb | replace hb := Zan hb | replace hb := Zbr hb | replace hb := Zbs hb)) <;> (try (exfalso; fail)))))
 all_goals (try simp only [inB] at *)
 iterate 3 (refine ⟨.inr rfl, ret1 rfl (.tmp rfl) (List.nil_sublist _) ⟨congrArg exB ?_, rfl⟩⟩; rw [Bool.eq_iff_iff]; simp only [Bool.and_eq_true, decide_eq_true_eq, Bool.false_eq_true, false_iff]; rintro ⟨h1, -⟩; omega)
 rename_i hb3 hb2
 have hcc := hc hb3
 refine ⟨?_⟩
 (repeat' (first | (apply Zbh 5; refine Stop.out ?_) | (apply Za9; (apply g_mkfn; exact WT_mkclos (ps := [_]) rfl); exact rfl) | refine Za8 ?_ | refine Za1 ?_ | refine Za6 ?_ | (apply Za9; (first | exact Za4 rfl | (apply Za7; exact Zb1 rfl rfl) | (apply Zat; exact Zay rfl rfl rfl) | (apply g_un; exact Zbg rfl)); exact rfl) | refine Zag ?_ | refine Zaq ?_ | (apply Zaj; exact rfl; (apply Zao; (refine Zaw Tryz.func76 rfl hcc rfl ?_; rintro _ _ ⟨rfl, rfl⟩))) | (refine Zac rfl (fun hb => ?_) (fun hb => ?_) <;> (repeat (first | replace hb := Zbr hb | replace hb := Zbs hb)) <;> (try (exfalso; fail)))))
 all_goals (generalize (r.crits.all fun c => decide (2 * c.trim < y.panel)) = bc at *)
 · refine ⟨.inr rfl, ret1 rfl (.tmp rfl) (List.nil_sublist _) ⟨congrArg exB ?_, rfl⟩⟩
   simp_all
 refine ⟨?_⟩
 have hdec : decide (1 ≤ y.panel ∧ y.panel ≤ 256 ∧ 1 ≤ y.quota ∧ y.quota ≤ 4096 ∧ 1 ≤ y.cut ∧ y.cut ≤ 3) = true := by rw [decide_eq_true_iff]; omega
 rw [hdec]
 clear hdec
 have hbc : bc = true := by simp_all
 subst hbc
 simp only [Bool.true_and]
 (repeat' (first | refine Za8 ?_ | refine Za1 ?_ | refine Za6 ?_ | (apply Za9; (first | exact Za3 rfl | exact Za4 rfl | exact Zas (b := true) rfl (fun _ => rfl) (fun e => by cases e) | exact Zas (b := false) rfl (fun e => by cases e) (fun _ => rfl) | (apply Za7; first | exact Zb1 rfl rfl | exact Zab (k := 0) rfl rfl rfl rfl | exact WT_loadfa2 rfl rfl) | (apply Zat; first | exact Zaf rfl rfl rfl | exact Zay rfl rfl rfl) | (apply Zah; exact Zcd rfl rfl)); exact rfl) | (refine Zbq rfl rfl rfl rfl rfl ?_) | (apply Zbt; exact rfl; exact rfl; exact rfl; (first | (apply Za7; exact Zab (k := 0) rfl rfl rfl rfl) | (apply Zat; exact Zaf rfl rfl rfl) | (apply Zah; first | exact WT_teq rfl rfl | exact Zcd rfl rfl) | (apply Zax; exact Zb3 rfl rfl)); exact rfl) | refine Zag ?_ | refine Zaq ?_ | (apply Zaj; exact rfl; first | (apply Zao; (refine Zaw Tryz.func88 rfl hx rfl ?_; rintro _ _ ⟨rfl, rfl⟩)) | (apply Zbi; refine Zba ?_; intro _) | (apply Zav; refine Zal (k := 0) (l0 := []) rfl rfl rfl ?_)) | (refine Zbm rfl rfl (fun hb => ?_) (fun hb => ?_) <;> (repeat (first | replace hb := Zam hb | replace hb := Zan hb)) <;> (try (exfalso; fail))) | (refine Zac rfl (fun hb => ?_) (fun hb => ?_) <;> (repeat (fail)) <;> (try (exfalso; fail)))))
 all_goals (refine ⟨.inr rfl, ret1 rfl (.tmp rfl) (List.nil_sublist _) ⟨congrArg exB ?_, rfl⟩⟩)
 all_goals (simp only [*, if_true, if_false, Bool.false_eq_true])
 all_goals (try (rw [Bool.eq_iff_iff]; simp_all; done))
set_option maxHeartbeats 1000000 in
set_option maxRecDepth 100000 in
theorem formed_any (k : Nat) (r : RulesD) : FnC Tryz.prog 39 [agg (rulesV k r)] [] (fun p loc => p = exB r.fine ∧ loc = []) := by
 have h1 := allCrit_cst r.crits Crit.fine 77 Tryz.f77 _ Tryz.func77 rfl rfl (fun q _ => crit15_any q)
 have h2 := fun l => allItem_cst l ItemD.fine 79 Tryz.f79 _ Tryz.func79 rfl rfl (fun q _ => item15_any q)
 have h3 := allTie_cst r.ties TieD.fine 83 Tryz.f83 _ Tryz.func83 rfl rfl (fun q _ => formed1_any q)
 have h4 := allRound_any k r.rounds (RoundD.fine r.crits) 86 Tryz.f86 _ Tryz.func86 rfl rfl [fp (rulesV k r)] (fun q _ => formed2_any k r q)
 unfold RulesD.fine
 unfold rulesV
 unfold rulesV at h4
 generalize r.crits.all Crit.fine = c1 at *
 generalize hg2 : (fun l : List ItemD => l.all ItemD.fine) = g2 at *
 generalize r.ties.all TieD.fine = c3 at *
 generalize r.rounds.all (RoundD.fine r.crits) = c4 at *
 have e2 : ∀ l : List ItemD, l.all ItemD.fine = g2 l := fun l => congrFun hg2 l
 simp only [e2] at h2 ⊢
 refine Zb7 Tryz.func39 rfl Tryz.ntmps39 rfl fun w0 F0 out => ?_
 (repeat' (first | (apply Zbh 1; refine Stop.out ?_) | refine Za8 ?_ | refine Za1 ?_ | refine Za6 ?_ | (apply Za9; (exact Za4 rfl); exact rfl) | (apply Zaj; exact rfl; (apply Zc9; refine Zbz rfl ?_; intro _))))
 rename_i b1
 refine ⟨Zbn (Zch (k := 0) (t := 1) rfl rfl) ?_⟩
 (repeat' (first | (apply Za9; (apply g_mkfn; exact WT_mkclos (ps := [_]) rfl); exact rfl) | refine Za8 ?_ | refine Za1 ?_ | refine Za6 ?_ | (apply Za9; (first | exact Za3 rfl | exact Za4 rfl | exact Zas (b := true) rfl (fun _ => rfl) (fun e => by cases e) | exact Zas (b := false) rfl (fun e => by cases e) (fun _ => rfl) | (apply Za7; exact Zb1 rfl rfl) | (apply Zat; exact Zay rfl rfl rfl) | (apply Zah; exact Zcd rfl rfl) | (apply Zax; exact Zb3 rfl rfl) | (apply g_un; exact Zbg rfl)); exact rfl) | (refine Zbq rfl rfl rfl rfl rfl ?_) | (apply Zbt; exact rfl; exact rfl; exact rfl; (first | (apply Za7; exact Zb1 rfl rfl) | (apply Zat; exact Zay rfl rfl rfl) | (apply Zah; first | exact Zcd rfl rfl | exact WT_bne rfl rfl rfl) | (apply Zax; exact Zb3 rfl rfl) | (apply g_un; exact Zbg rfl)); exact rfl) | refine Zag ?_ | refine Zaq ?_ | refine Zb4 rfl ?_ | (apply Zaj; exact rfl; (apply Zao; first | (refine Zaw Tryz.func81 rfl (within15_any _ _ _) rfl ?_; rintro _ _ ⟨rfl, rfl⟩) | (refine Zaw Tryz.func82 rfl h3 rfl ?_; rintro _ _ ⟨rfl, rfl⟩) | (refine Zaw Tryz.func85 rfl h4 rfl ?_; rintro _ _ ⟨rfl, rfl⟩))) | (apply Zc8; exact rfl; exact rfl; exact rfl; exact rfl; (apply Zao; first | (refine Zaw Tryz.func76 rfl h1 rfl ?_; rintro _ _ ⟨rfl, rfl⟩) | (refine Zaw Tryz.func78 rfl (h2 _) rfl ?_; rintro _ _ ⟨rfl, rfl⟩) | (refine Zaw Tryz.func80 rfl (falling_any _) rfl ?_; rintro _ _ ⟨rfl, rfl⟩))) | (refine Zbm rfl rfl (fun hb => ?_) (fun hb => ?_) <;> (repeat (first | replace hb := Zam hb | replace hb := Zan hb | replace hb := Zbr hb | replace hb := Zbs hb)) <;> (try (exfalso; fail))) | (refine Zac rfl (fun hb => ?_) (fun hb => ?_) <;> (repeat (first | replace hb := Zam hb | replace hb := Zan hb | replace hb := Zbr hb | replace hb := Zbs hb)) <;> (try (exfalso; fail)))))
 all_goals (refine ⟨.inr rfl, ret1 rfl (.tmp rfl) (List.nil_sublist _) ⟨congrArg exB ?_, rfl⟩⟩)
 all_goals clear h1 h2 h3 h4 hg2 e2
 all_goals (try simp only [inB, decide_eq_true_eq, decide_eq_false_iff_not, Bool.not_eq_true] at *)
 all_goals (rw [Bool.eq_iff_iff]; simp only [Bool.and_eq_true, decide_eq_true_eq, decide_eq_decide, Bool.false_eq_true, false_iff, not_and] at *)
 all_goals (first | omega | (simp_all; done) | (simp_all; omega) | exact ⟨fun h => ⟨⟨by omega, by omega⟩, by assumption, by assumption, by assumption, by assumption, by assumption, ⟨by omega, by omega, by omega⟩, by assumption, h⟩, fun h => h.2.2.2.2.2.2.2.2⟩)
end Go.Proofs.YthldagplhklbnaaGreatDoor
