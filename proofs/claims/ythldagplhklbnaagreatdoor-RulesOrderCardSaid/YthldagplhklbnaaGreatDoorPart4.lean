/- The specification's key and expr. -/
import Derived.Test.YthldagplhklbnaaGreatDoorPart3
import Derived.Test.YthldagplhklbnaaGreatDoorPart2
import Derived.Shelf.Spec.SlicesGrow
namespace Go.Proofs.YthldagplhklbnaaGreatDoor
open Go Go.RowKit Go.Kx Go.Fr
abbrev nmsV (l0 l1 l2 l3 : List (List UInt8)) : List SP := [isl eStr l0, isl eStr l1, isl eStr l2, isl eStr l3]
set_option maxHeartbeats 1000000 in
set_option maxRecDepth 100000 in
theorem r14key_any (l0 l1 l2 l3 : List (List UInt8)) (k : KeyD) : FnC Tryz.prog 68 [agg (nmsV l0 l1 l2 l3), agg (keyV k)] [] (fun p loc => p = tup [agg (keyV (keyN l0 l2 l3 k)), exB (keyOk l0 l2 l3 k)] ∧ loc = []) := by
 unfold keyV
 refine Zb7 Tryz.func68 rfl Tryz.ntmps68 rfl fun w0 F0 out => ?_
 by_cases h1 : k.kind = 1
 · (repeat' (first | refine Za8 ?_ | refine Za1 ?_ | refine Za6 ?_ | (apply Za9; (first | exact Za4 rfl | (apply Za7; first | exact Zab (k := 1) rfl rfl rfl rfl | exact Zab (k := 2) rfl rfl rfl rfl) | (apply Zat; exact Zaf rfl rfl rfl) | (apply Zah; exact Zcd rfl rfl) | (apply Zak; exact Zc5 rfl rfl rfl)); exact rfl) | refine Zaa ?_ | (apply Zaj; exact rfl; first | (apply Zao; (refine Zaw Tryz.func67 rfl (r14index_any _ _) rfl ?_; rintro _ _ ⟨rfl, rfl⟩)) | (apply Zc9; refine Zbz rfl ?_; intro _) | (apply Zbi; refine Zba ?_; intro _) | (apply Zav; refine Zal (k := 1) (l0 := []) rfl rfl rfl ?_)) | (refine Zac rfl (fun hb => ?_) (fun hb => ?_) <;> (repeat (first | replace hb := Zam hb | replace hb := Zan hb)) <;> (try (exfalso; omega)))))
   all_goals (try (exfalso; omega))
   (refine Zbx 4 rfl ?_)
   (apply Zb0 0 rfl (by decide +kernel) rfl (by decide +kernel) (by repeat (first | exact Za5)) Za0; (first | (apply Za7; first | exact Zb6 (k := 1) rfl rfl rfl)); exact rfl)
   (apply Za2 1 rfl (by decide +kernel) rfl (by repeat (first | exact Za5)) Za0; (first | (apply Zat; first | exact Zaf rfl rfl rfl)); exact rfl)
   (refine Zcg (H1 := fun _ => True) (H2 := feet []) 2 4 (by decide +kernel) rfl Za0 (fun _ _ _ => trivial) rfl Za0 (fun h => absurd h (by decide)) ?_ ?_)
   ·
     ((apply WO_t (H := fun _ => True); (first | (apply Za7; first | exact Zab (k := 1) rfl rfl rfl rfl)); exact rfl))
     (apply Za2 3 rfl (by decide +kernel) rfl (by repeat (first | exact Za5)) Za0; (first | (apply Zah; first | exact Zcp rfl rfl)); exact rfl)
     (refine Zap (H' := feet []) 4 (by decide +kernel) rfl Za0 (fun h => absurd h (by decide)) ?_)
     (first | (apply Zav; first | refine Zal (k := 0) (l0 := []) rfl rfl rfl ?_))
     (refine Zap (H' := fun _ => True) 5 (by decide +kernel) rfl Za0 (fun _ _ _ => trivial) ?_)
     ((apply WO_t (H := fun _ => True); (first | exact Za4 rfl); exact rfl))
     refine Zb9 (by decide +kernel) ?_
     refine Zaq ?_
     (refine ⟨.inr rfl, retw (loc' := []) (by first | exact ret2 rfl (.cella (k := 0) rfl rfl rfl rfl inferInstance rfl) (.tmp rfl) (List.nil_sublist _) ⟨rfl, rfl⟩) ?_ ⟨rfl, rfl⟩⟩)
     (simp only [keyN, keyOk, if_pos h1]; exact Im.refl _)
   ·
     (first | (apply Zav; first | refine Zal (k := 0) (l0 := []) rfl rfl rfl ?_))
     (refine Zap (H' := fun _ => True) 2 (by decide +kernel) rfl Za0 (fun _ _ _ => trivial) ?_)
     ((apply WO_t (H := fun _ => True); (first | (apply Za7; first | exact Zab (k := 1) rfl rfl rfl rfl)); exact rfl))
     (apply Za2 3 rfl (by decide +kernel) rfl (by repeat (first | exact Za5)) Za0; (first | (apply Zah; first | exact Zcp rfl rfl)); exact rfl)
     (refine Zap (H' := fun _ => True) 5 (by decide +kernel) rfl Za0 (fun _ _ _ => trivial) ?_)
     ((apply WO_t (H := fun _ => True); (first | exact Za4 rfl); exact rfl))
     refine Zb9 (by decide +kernel) ?_
     refine Zaq ?_
     (refine ⟨.inr rfl, retw (loc' := []) (by first | exact ret2 rfl (.cella (k := 0) rfl rfl rfl rfl inferInstance rfl) (.tmp rfl) (List.nil_sublist _) ⟨rfl, rfl⟩) ?_ ⟨rfl, rfl⟩⟩)
     (simp only [keyN, keyOk, if_pos h1]; exact Im.refl _)
 by_cases h2 : k.kind = 2
 · (repeat' (first | refine Za8 ?_ | refine Za1 ?_ | refine Za6 ?_ | (apply Za9; (first | exact Za4 rfl | (apply Za7; first | exact Zab (k := 1) rfl rfl rfl rfl | exact Zab (k := 2) rfl rfl rfl rfl) | (apply Zat; exact Zaf rfl rfl rfl) | (apply Zah; exact Zcd rfl rfl) | (apply Zak; exact Zc5 rfl rfl rfl)); exact rfl) | refine Zaa ?_ | (apply Zaj; exact rfl; first | (apply Zao; (refine Zaw Tryz.func67 rfl (r14index_any _ _) rfl ?_; rintro _ _ ⟨rfl, rfl⟩)) | (apply Zc9; refine Zbz rfl ?_; intro _) | (apply Zbi; refine Zba ?_; intro _) | (apply Zav; refine Zal (k := 1) (l0 := []) rfl rfl rfl ?_)) | (refine Zac rfl (fun hb => ?_) (fun hb => ?_) <;> (repeat (first | replace hb := Zam hb | replace hb := Zan hb)) <;> (try (exfalso; omega)))))
   all_goals (try (exfalso; omega))
   (refine Zbx 4 rfl ?_)
   (apply Zb0 0 rfl (by decide +kernel) rfl (by decide +kernel) (by repeat (first | exact Za5)) Za0; (first | (apply Za7; first | exact Zb6 (k := 1) rfl rfl rfl)); exact rfl)
   (apply Za2 1 rfl (by decide +kernel) rfl (by repeat (first | exact Za5)) Za0; (first | (apply Zat; first | exact Zaf rfl rfl rfl)); exact rfl)
   (refine Zcg (H1 := fun _ => True) (H2 := feet []) 2 4 (by decide +kernel) rfl Za0 (fun _ _ _ => trivial) rfl Za0 (fun h => absurd h (by decide)) ?_ ?_)
   ·
     ((apply WO_t (H := fun _ => True); (first | (apply Za7; first | exact Zab (k := 1) rfl rfl rfl rfl)); exact rfl))
     (apply Za2 3 rfl (by decide +kernel) rfl (by repeat (first | exact Za5)) Za0; (first | (apply Zah; first | exact Zcp rfl rfl)); exact rfl)
     (refine Zap (H' := feet []) 4 (by decide +kernel) rfl Za0 (fun h => absurd h (by decide)) ?_)
     (first | (apply Zav; first | refine Zal (k := 0) (l0 := []) rfl rfl rfl ?_))
     (refine Zap (H' := fun _ => True) 5 (by decide +kernel) rfl Za0 (fun _ _ _ => trivial) ?_)
     ((apply WO_t (H := fun _ => True); (first | exact Za4 rfl); exact rfl))
     refine Zb9 (by decide +kernel) ?_
     refine Zaq ?_
     (refine ⟨.inr rfl, retw (loc' := []) (by first | exact ret2 rfl (.cella (k := 0) rfl rfl rfl rfl inferInstance rfl) (.tmp rfl) (List.nil_sublist _) ⟨rfl, rfl⟩) ?_ ⟨rfl, rfl⟩⟩)
     (simp only [keyN, keyOk, if_neg h1, if_pos h2]; exact Im.refl _)
   ·
     (first | (apply Zav; first | refine Zal (k := 0) (l0 := []) rfl rfl rfl ?_))
     (refine Zap (H' := fun _ => True) 2 (by decide +kernel) rfl Za0 (fun _ _ _ => trivial) ?_)
     ((apply WO_t (H := fun _ => True); (first | (apply Za7; first | exact Zab (k := 1) rfl rfl rfl rfl)); exact rfl))
     (apply Za2 3 rfl (by decide +kernel) rfl (by repeat (first | exact Za5)) Za0; (first | (apply Zah; first | exact Zcp rfl rfl)); exact rfl)
     (refine Zap (H' := fun _ => True) 5 (by decide +kernel) rfl Za0 (fun _ _ _ => trivial) ?_)
     ((apply WO_t (H := fun _ => True); (first | exact Za4 rfl); exact rfl))
     refine Zb9 (by decide +kernel) ?_
     refine Zaq ?_
     (refine ⟨.inr rfl, retw (loc' := []) (by first | exact ret2 rfl (.cella (k := 0) rfl rfl rfl rfl inferInstance rfl) (.tmp rfl) (List.nil_sublist _) ⟨rfl, rfl⟩) ?_ ⟨rfl, rfl⟩⟩)
     (simp only [keyN, keyOk, if_neg h1, if_pos h2]; exact Im.refl _)
 by_cases h5 : k.kind = 5
 · (repeat' (first | refine Za8 ?_ | refine Za1 ?_ | refine Za6 ?_ | (apply Za9; (first | exact Za4 rfl | (apply Za7; first | exact Zab (k := 1) rfl rfl rfl rfl | exact Zab (k := 2) rfl rfl rfl rfl) | (apply Zat; exact Zaf rfl rfl rfl) | (apply Zah; exact Zcd rfl rfl) | (apply Zak; exact Zc5 rfl rfl rfl)); exact rfl) | refine Zaa ?_ | (apply Zaj; exact rfl; first | (apply Zao; (refine Zaw Tryz.func67 rfl (r14index_any _ _) rfl ?_; rintro _ _ ⟨rfl, rfl⟩)) | (apply Zc9; refine Zbz rfl ?_; intro _) | (apply Zbi; refine Zba ?_; intro _) | (apply Zav; refine Zal (k := 1) (l0 := []) rfl rfl rfl ?_)) | (refine Zac rfl (fun hb => ?_) (fun hb => ?_) <;> (repeat (first | replace hb := Zam hb | replace hb := Zan hb)) <;> (try (exfalso; omega)))))
   all_goals (try (exfalso; omega))
   (refine Zbx 4 rfl ?_)
   (apply Zb0 0 rfl (by decide +kernel) rfl (by decide +kernel) (by repeat (first | exact Za5)) Za0; (first | (apply Za7; first | exact Zb6 (k := 1) rfl rfl rfl)); exact rfl)
   (apply Za2 1 rfl (by decide +kernel) rfl (by repeat (first | exact Za5)) Za0; (first | (apply Zat; first | exact Zaf rfl rfl rfl)); exact rfl)
   (refine Zcg (H1 := fun _ => True) (H2 := feet []) 2 4 (by decide +kernel) rfl Za0 (fun _ _ _ => trivial) rfl Za0 (fun h => absurd h (by decide)) ?_ ?_)
   ·
     ((apply WO_t (H := fun _ => True); (first | (apply Za7; first | exact Zab (k := 1) rfl rfl rfl rfl)); exact rfl))
     (apply Za2 3 rfl (by decide +kernel) rfl (by repeat (first | exact Za5)) Za0; (first | (apply Zah; first | exact Zcp rfl rfl)); exact rfl)
     (refine Zap (H' := feet []) 4 (by decide +kernel) rfl Za0 (fun h => absurd h (by decide)) ?_)
     (first | (apply Zav; first | refine Zal (k := 0) (l0 := []) rfl rfl rfl ?_))
     (refine Zap (H' := fun _ => True) 5 (by decide +kernel) rfl Za0 (fun _ _ _ => trivial) ?_)
     ((apply WO_t (H := fun _ => True); (first | exact Za4 rfl); exact rfl))
     refine Zb9 (by decide +kernel) ?_
     refine Zaq ?_
     (refine ⟨.inr rfl, retw (loc' := []) (by first | exact ret2 rfl (.cella (k := 0) rfl rfl rfl rfl inferInstance rfl) (.tmp rfl) (List.nil_sublist _) ⟨rfl, rfl⟩) ?_ ⟨rfl, rfl⟩⟩)
     (simp only [keyN, keyOk, if_neg h1, if_neg h2, if_pos h5]; exact Im.refl _)
   ·
     (first | (apply Zav; first | refine Zal (k := 0) (l0 := []) rfl rfl rfl ?_))
     (refine Zap (H' := fun _ => True) 2 (by decide +kernel) rfl Za0 (fun _ _ _ => trivial) ?_)
     ((apply WO_t (H := fun _ => True); (first | (apply Za7; first | exact Zab (k := 1) rfl rfl rfl rfl)); exact rfl))
     (apply Za2 3 rfl (by decide +kernel) rfl (by repeat (first | exact Za5)) Za0; (first | (apply Zah; first | exact Zcp rfl rfl)); exact rfl)
     (refine Zap (H' := fun _ => True) 5 (by decide +kernel) rfl Za0 (fun _ _ _ => trivial) ?_)
     ((apply WO_t (H := fun _ => True); (first | exact Za4 rfl); exact rfl))
     refine Zb9 (by decide +kernel) ?_
     refine Zaq ?_
     (refine ⟨.inr rfl, retw (loc' := []) (by first | exact ret2 rfl (.cella (k := 0) rfl rfl rfl rfl inferInstance rfl) (.tmp rfl) (List.nil_sublist _) ⟨rfl, rfl⟩) ?_ ⟨rfl, rfl⟩⟩)
     (simp only [keyN, keyOk, if_neg h1, if_neg h2, if_pos h5]; exact Im.refl _)
 (repeat' (first | refine Za8 ?_ | refine Za1 ?_ | refine Za6 ?_ | (apply Za9; (first | exact Za4 rfl | (apply Za7; first | exact Zab (k := 1) rfl rfl rfl rfl | exact Zb6 (k := 1) rfl rfl rfl) | (apply Zat; exact Zaf rfl rfl rfl) | (apply Zah; exact Zcd rfl rfl)); exact rfl) | refine Zaa ?_ | refine Zaq ?_ | (apply Zaj; exact rfl; first | (apply Zc9; refine Zbz rfl ?_; intro _) | (apply Zbi; refine Zba ?_; intro _) | (apply Zav; refine Zal (k := 0) (l0 := []) rfl rfl rfl ?_)) | (refine Zac rfl (fun hb => ?_) (fun hb => ?_) <;> (repeat (first | replace hb := Zam hb | replace hb := Zan hb)) <;> (try (exfalso; omega)))))
 all_goals (try (exfalso; omega))
 (refine ⟨.inr rfl, retw (loc' := []) (by first | exact ret2 rfl (.cella (k := 0) rfl rfl rfl rfl inferInstance rfl) (.tmp rfl) (List.nil_sublist _) ⟨rfl, rfl⟩) ?_ ⟨rfl, rfl⟩⟩)
 simp only [keyN, keyOk, if_neg h1, if_neg h2, if_neg h5]; exact Im.refl _
set_option maxHeartbeats 2000000 in
set_option maxRecDepth 100000 in
theorem r14expr_any (l0 l1 l2 l3 : List (List UInt8)) : ∀ (k : Nat) (x : Ex), FnC Tryz.prog 69 [agg (nmsV l0 l1 l2 l3), agg (exV k x)] [] (fun p loc => p = tup [agg (exV k (x.res l0 l3)), exB (x.ok l0 l3)] ∧ loc = []) := by
 intro k
 induction k with
 | zero => intro x; exact Zbe (i := 1) rfl Says_ex0 fun h => h.elim
 | succ k ih =>
   intro x
   refine Zbe (i := 1) rfl (Zca (i := 4) (p := isl (eEx k) x.l) rfl Zbl) fun hlen => ?_
   rw [Ex.res_l, Ex.ok_l]
   show FnC Tryz.prog 69 [agg (nmsV l0 l1 l2 l3), agg [exI .i64 x.kind, exT x.name, exI .i64 x.n, exI .i64 x.d, isl (eEx k) x.l]] [] (fun p loc => p = tup [agg [exI .i64 x.kind, exT x.name, exI .i64 (refN l0 l3 x.kind x.name x.n), exI .i64 x.d, isl (eEx k) (x.l.map (Ex.res l0 l3))], exB (refOk l0 l3 x.kind x.name && x.l.all (Ex.ok l0 l3))] ∧ loc = [])
   obtain ⟨hlen, hby⟩ := hlen
   simp only [maxLen] at hlen
   have hby : x.l.length * 64 ≤ 140737488355328 := hby
   refine Zb7 Tryz.func69 rfl Tryz.ntmps69 rfl fun w0 F0 out => ?_
   have hre : ∀ (m : Nat) (h : m < x.l.length), FnC Tryz.prog 69 [agg (nmsV l0 l1 l2 l3), agg (exV k x.l[m])] [] (fun p loc => p = tup [agg (exV k (x.l[m].res l0 l3)), exB (x.l[m].ok l0 l3)] ∧ loc = []) := fun m h => ih _
   clear ih
   have eN : (if x.kind = 5 then indexF l3 x.name else if x.kind = 2 then indexF l0 x.name else x.n) = refN l0 l3 x.kind x.name x.n := by
     unfold refN; split <;> split <;> first | rfl | omega
   have eO : (if x.kind = 5 then decide (0 ≤ indexF l3 x.name) else if x.kind = 2 then decide (0 ≤ indexF l0 x.name) else true) = refOk l0 l3 x.kind x.name := by
     unfold refOk; split <;> split <;> first | rfl | omega
   (repeat' (first | (apply cuts_at 2; refine Stop.out ?_) | refine Za8 ?_ | refine Za1 ?_ | refine Za6 ?_ | (apply Za9; (exact Za4 rfl); exact rfl) | (apply Zaj; exact rfl; first | (apply Zc9; refine Zbz rfl ?_; intro _) | (apply Zbi; refine Zba ?_; intro _))))
   rename_i b1 b2 b3
   refine ⟨WP_cut (fun _ : Unit => ([(2, ex (.pointer (some ⟨b1, 0, none⟩))), (3, ex (.pointer (some ⟨b2, 0, none⟩))), (4, ex (.pointer (some ⟨b3, 0, none⟩))), (6, exB (if x.kind = 2 then decide (0 ≤ indexF l0 x.name) else true))], [row b3 46 5 [ex (.int .i64 0), ex (.string .empty), ex (.int .i64 0), ex (.int .i64 0), ex (.slice none 0 0)], row b2 46 5 [exI .i64 x.kind, exT x.name, exI .i64 (if x.kind = 2 then indexF l0 x.name else x.n), exI .i64 x.d, isl (eEx k) x.l], row b1 107 4 (nmsV l0 l1 l2 l3)])) (fun _ => True) ?_ fun _ _ => ?_⟩
   · (repeat' (first | refine Za8 ?_ | refine Za1 ?_ | refine Za6 ?_ | (apply Za9; (first | exact Za4 rfl | (apply Za7; first | exact Zab (k := 1) rfl rfl rfl rfl | exact Zab (k := 2) rfl rfl rfl rfl) | (apply Zat; exact Zaf rfl rfl rfl) | (apply Zah; first | exact Zcd rfl rfl | exact Zcp rfl rfl) | (apply Zak; exact Zc5 rfl rfl rfl)); exact rfl) | refine Zag ?_ | (apply Zaj; exact rfl; first | (apply Zao; (refine Zaw Tryz.func67 rfl (r14index_any _ _) rfl ?_; rintro _ _ ⟨rfl, rfl⟩)) | (apply Zav; refine Zal (k := 1) (l0 := []) rfl rfl rfl ?_)) | (refine Zac rfl (fun hb => ?_) (fun hb => ?_) <;> (repeat (first | replace hb := Zam hb | replace hb := Zan hb)) <;> (try (exfalso; fail)))))
     all_goals (refine Zbp () trivial ?_)
     all_goals (first | rw [if_pos hb, if_pos hb] | rw [if_neg hb, if_neg hb])
     all_goals exact Zae (by repeat (first | exact Zai | refine Zad rfl ?_)) (List.Sublist.refl _)
   (repeat' (first | (apply cuts_at 5; refine Stop.out ?_)))
   refine ⟨WP_cut (fun _ : Unit => ([(2, ex (.pointer (some ⟨b1, 0, none⟩))), (3, ex (.pointer (some ⟨b2, 0, none⟩))), (4, ex (.pointer (some ⟨b3, 0, none⟩))), (6, exB (refOk l0 l3 x.kind x.name))], [row b3 46 5 [ex (.int .i64 0), ex (.string .empty), ex (.int .i64 0), ex (.int .i64 0), ex (.slice none 0 0)], row b2 46 5 [exI .i64 x.kind, exT x.name, exI .i64 (refN l0 l3 x.kind x.name x.n), exI .i64 x.d, isl (eEx k) x.l], row b1 107 4 (nmsV l0 l1 l2 l3)])) (fun _ => True) ?_ fun _ _ => ?_⟩
   · (repeat' (first | refine Za8 ?_ | refine Za1 ?_ | refine Za6 ?_ | (apply Za9; (first | exact Za4 rfl | (apply Za7; first | exact Zab (k := 1) rfl rfl rfl rfl | exact Zab (k := 2) rfl rfl rfl rfl) | (apply Zat; exact Zaf rfl rfl rfl) | (apply Zah; first | exact Zcd rfl rfl | exact Zcp rfl rfl) | (apply Zak; exact Zc5 rfl rfl rfl)); exact rfl) | refine Zag ?_ | (apply Zaj; exact rfl; first | (apply Zao; (refine Zaw Tryz.func67 rfl (r14index_any _ _) rfl ?_; rintro _ _ ⟨rfl, rfl⟩)) | (apply Zav; refine Zal (k := 1) (l0 := []) rfl rfl rfl ?_)) | (refine Zac rfl (fun hb => ?_) (fun hb => ?_) <;> (repeat (first | replace hb := Zam hb | replace hb := Zan hb)) <;> (try (exfalso; fail)))))
     all_goals (refine Zbp () trivial ?_)
     all_goals (rw [← eN, ← eO]; first | rw [if_pos hb, if_pos hb] | rw [if_neg hb, if_neg hb])
     all_goals exact Zae (by repeat (first | exact Zai | refine Zad rfl ?_)) (List.Sublist.refl _)
   clear eN eO
   generalize refOk l0 l3 x.kind x.name = o0
   generalize refN l0 l3 x.kind x.name x.n = n0
   (repeat' (first | refine Za8 ?_ | refine Za1 ?_ | refine Za6 ?_ | (apply Za9; (first | exact Za4 rfl); exact rfl) | refine Zaa ?_))
   refine Zbv (fun s : Nat × Value => ([(2, ex (.pointer (some ⟨b1, 0, none⟩))), (3, ex (.pointer (some ⟨b2, 0, none⟩))), (4, ex (.pointer (some ⟨b3, 0, none⟩))), (6, exB (o0 && (x.l.take s.1).all (Ex.ok l0 l3))), (7, ex s.2), (8, exI .i64 (s.1 : Int))], [vec s.2 46 5 s.1 (((x.l.take s.1).map (Ex.res l0 l3)).flatMap (exV k)), row b3 46 5 [ex (.int .i64 0), ex (.string .empty), ex (.int .i64 0), ex (.int .i64 0), ex (.slice none 0 0)], row b2 46 5 [exI .i64 x.kind, exT x.name, exI .i64 n0, exI .i64 x.d, isl (eEx k) x.l], row b1 107 4 (nmsV l0 l1 l2 l3)])) (fun s => s.1 ≤ x.l.length) (fun s => x.l.length - s.1) (0, .slice none 0 0) ?_ (Nat.zero_le _) fun s hs => ?_
   · refine (LeadsS_vec_nil (T := 46) (sz := 5)).leads.trans ?_
     simp only [List.take_zero, List.all_nil, Bool.and_true, List.map_nil, List.flatMap_nil]
     exact Zae (by repeat (first | exact Zai | refine Zad rfl ?_)) (List.Sublist.refl _)
   obtain ⟨i, v⟩ := s
   simp only at hs ⊢
   by_cases hlt : i < x.l.length
   · have hcall := hre i hlt
     (repeat' (first | (apply cut_at 12; refine Stop.out ?_) | refine Za8 ?_ | refine Za1 ?_ | refine Za6 ?_ | (apply Za9; (first | exact Za3 rfl | (apply Za7; exact Zab (k := 2) rfl rfl rfl rfl) | (apply Zat; exact Zaf rfl rfl rfl) | (apply Zah; exact Zau rfl rfl) | (apply Zax; exact Zb3 rfl rfl)); exact rfl) | refine Zaa ?_ | refine Zag ?_ | (refine Zac rfl (fun hb => ?_) (fun hb => ?_) <;> (repeat (first | replace hb := Zam hb | replace hb := Zan hb)) <;> (try (exfalso; omega)))))
     refine ⟨WP_cutR 12 (fun b9 : Nat => ([(2, ex (.pointer (some ⟨b1, 0, none⟩))), (3, ex (.pointer (some ⟨b2, 0, none⟩))), (4, ex (.pointer (some ⟨b3, 0, none⟩))), (6, exB (o0 && (x.l.take i).all (Ex.ok l0 l3))), (7, ex v), (8, exI .i64 (i : Int)), (9, ex (.pointer (some ⟨b9, 0, none⟩))), (10, exB (x.l[i].ok l0 l3))], row b9 46 5 (exV k (x.l[i].res l0 l3)) :: [vec v 46 5 i (((x.l.take i).map (Ex.res l0 l3)).flatMap (exV k)), row b3 46 5 [ex (.int .i64 0), ex (.string .empty), ex (.int .i64 0), ex (.int .i64 0), ex (.slice none 0 0)], row b2 46 5 [exI .i64 x.kind, exT x.name, exI .i64 n0, exI .i64 x.d, isl (eEx k) x.l], row b1 107 4 (nmsV l0 l1 l2 l3)])) (fun _ => True) ?_ fun b9 _ => ?_⟩
     · skip
       (refine Zbx 11 rfl ?_)
       (apply Zb0 0 rfl (by decide +kernel) rfl (by decide +kernel) (by repeat (exact Za5)) Za0; ((apply Za7; exact Zb6 (k := 3) rfl rfl rfl)); exact rfl)
       (apply Za2 1 rfl (by decide +kernel) rfl (by repeat (first | exact Za5)) Za0; (first | (apply Zat; first | exact Zaf rfl rfl rfl)); exact rfl)
       (apply Zb0 2 rfl (by decide +kernel) rfl (by decide +kernel) (by repeat (exact Za5)) Za0; ((apply Za7; exact Zab (k := 2) rfl rfl rfl rfl)); exact rfl)
       (apply Za2 3 rfl (by decide +kernel) rfl (by repeat (first | exact Za5)) Za0; (first | exact Za3 rfl); exact rfl)
       (apply Za2 4 rfl (by decide +kernel) rfl (by repeat (first | exact Za5)) Za0; (first | (apply Zak; first | exact Zar rfl rfl rfl)); exact rfl)
       (apply Zb0 5 rfl (by decide +kernel) rfl (by decide +kernel) (by repeat (first | exact Za5)) Za0; (first | (apply Za7; first | exact Zb2 rfl rfl)); exact rfl)
       (refine Zcg 6 10 (by decide +kernel) rfl Za0 (fun _ _ h => h) rfl Za0 (fun _ _ h => h) ?_ ?_)
       ·
         (first | (apply Zao; first | (refine Zaw Tryz.func69 rfl hcall rfl ?_; rintro _ _ ⟨rfl, rfl⟩)))
         (apply Za2 7 rfl (by decide +kernel) rfl (by repeat (first | exact Za5)) Za0; (first | exact Za3 rfl); exact rfl)
         (apply Za2 8 rfl (by decide +kernel) rfl (by repeat (first | exact Za5)) Za0; (first | exact Zb5 rfl rfl); exact rfl)
         (apply Za2 9 rfl (by decide +kernel) rfl (by repeat (first | exact Za5)) Za0; (first | exact Zb5 rfl rfl); exact rfl)
         (refine Zap 10 (by decide +kernel) rfl Za0 (fun _ _ h => h) ?_)
         (first | (apply Zbi; refine Zba ?_; intro _))
         (refine Zap (H' := feet []) 11 (by decide +kernel) rfl Za0 (fun h => absurd h (by decide)) ?_)
         (first | (apply Zav; first | refine Zal (k := 0) (l0 := []) rfl rfl rfl ?_))
         (refine Zap (H' := fun _ => True) 12 (by decide +kernel) rfl Za0 (fun _ _ _ => trivial) ?_)
         ((apply WO_t (H := fun _ => True); (first | exact Za4 rfl); exact rfl))
         refine Zb9 (by decide +kernel) ?_
         exact Zbp _ trivial (Zae (by repeat (first | exact Zai | refine Zad rfl ?_)) (List.Sublist.refl _))
       ·
         (first | (apply Zbi; refine Zba ?_; intro _))
         (refine Zap 6 (by decide +kernel) rfl Za0 (fun _ _ h => h) ?_)
         (first | (apply Zao; first | (refine Zaw Tryz.func69 rfl hcall rfl ?_; rintro _ _ ⟨rfl, rfl⟩)))
         (apply Za2 7 rfl (by decide +kernel) rfl (by repeat (first | exact Za5)) Za0; (first | exact Za3 rfl); exact rfl)
         (apply Za2 8 rfl (by decide +kernel) rfl (by repeat (first | exact Za5)) Za0; (first | exact Zb5 rfl rfl); exact rfl)
         (apply Za2 9 rfl (by decide +kernel) rfl (by repeat (first | exact Za5)) Za0; (first | exact Zb5 rfl rfl); exact rfl)
         (refine Zap (H' := feet []) 11 (by decide +kernel) rfl Za0 (fun h => absurd h (by decide)) ?_)
         (first | (apply Zav; first | refine Zal (k := 0) (l0 := []) rfl rfl rfl ?_))
         (refine Zap (H' := fun _ => True) 12 (by decide +kernel) rfl Za0 (fun _ _ _ => trivial) ?_)
         ((apply WO_t (H := fun _ => True); (first | exact Za4 rfl); exact rfl))
         refine Zb9 (by decide +kernel) ?_
         exact Zbp _ trivial (Zae (by repeat (first | exact Zai | refine Zad rfl ?_)) (List.Sublist.refl _))
     (repeat' (first | refine Za8 ?_ | refine Za1 ?_ | refine Za6 ?_ | (apply Za9; (first | exact Za3 rfl | exact Za4 rfl | exact Zas (b := true) rfl (fun _ => rfl) (fun e => by cases e) | exact Zas (b := false) rfl (fun e => by cases e) (fun _ => rfl) | (apply Za7; exact Zb6 (k := 0) rfl rfl rfl) | (apply Zah; exact Zbf rfl rfl)); exact rfl) | (refine Zbq rfl rfl rfl rfl rfl ?_) | (apply Zbt; exact rfl; exact rfl; exact rfl; (exact Za3 rfl); exact rfl) | (apply Zaj; exact rfl; first | (apply Zcj; ((refine Zci (k := 2) (l0 := []) rfl rfl (by exact Src_rowW (k := 0) rfl rfl) rfl ?_)); intro _) | (apply Zcb; (refine Zce rfl rfl ?_); intro _)) | (refine Zbm rfl rfl (fun hb => ?_) (fun hb => ?_) <;> (repeat (fail)) <;> (try (exfalso; fail)))))
     all_goals (rename_i v2; refine ⟨(i + 1, v2), by show i + 1 ≤ x.l.length; omega, by show x.l.length - (i + 1) < x.l.length - i; omega, ?_⟩)
     all_goals (simp only [List.take_succ_eq_append_getElem hlt, List.all_append, List.all_cons, List.all_nil, Bool.and_true, List.map_append, List.map_cons, List.map_nil, List.flatMap_append, List.flatMap_cons, List.flatMap_nil, List.append_nil, ← Bool.and_assoc, hb, Bool.true_and, Bool.false_and])
     all_goals exact Zbd 2 (by repeat (first | exact Zai | refine Zad rfl ?_)) rfl
   · have hk9 : i = x.l.length := by omega
     subst hk9
     rw [List.take_length]
     (repeat' (first | (apply at_store; refine WPL_fvec (k := 0) (E := eEx k) (t := 60) (x.l.map (Ex.res l0 l3)) rfl rfl rfl (by simp) ?_ (hby := hby)) | refine Za8 ?_ | refine Za1 ?_ | refine Za6 ?_ | (apply Za9; (first | exact Za3 rfl | exact Za4 rfl | (apply Za7; first | exact Zab (k := 2) rfl rfl rfl rfl | exact Zb6 (k := 1) rfl rfl rfl) | (apply Zat; exact Zaf rfl rfl rfl) | (apply Zah; exact Zau rfl rfl) | (apply Zax; exact Zb3 rfl rfl)); exact rfl) | refine Zaq ?_ | refine Zbk ?_ | (apply Zaj; exact rfl; (apply Zav; first | refine Zal (k := 0) (l0 := []) rfl rfl rfl ?_ | refine Zal (k := 1) (l0 := []) rfl rfl rfl ?_)) | (refine Zac rfl (fun hb => ?_) (fun hb => ?_) <;> (repeat (first | replace hb := Zam hb | replace hb := Zan hb)) <;> (try (exfalso; omega)))))
     all_goals (try (exfalso; omega))
     (refine ⟨.inr rfl, retw (loc' := []) (by first | exact ret2 rfl (.cella (k := 0) rfl rfl rfl rfl inferInstance rfl) (.tmp rfl) (List.nil_sublist _) ⟨rfl, rfl⟩) ?_ ⟨rfl, rfl⟩⟩)
     exact Im.refl _
end Go.Proofs.YthldagplhklbnaaGreatDoor
namespace Go.Proofs.YthldagplhklbnaaGreatDoor
open Go Go.RowKit Go.Kx Go.Fr
theorem all_take_succ {α : Type} {l : List α} {p : α → Bool} {i : Nat} (h : i < l.length) : (l.take (i + 1)).all p = ((l.take i).all p && p l[i]) := by
 rw [List.take_succ_eq_append_getElem h, List.all_append]; simp
theorem any_take_succ {α : Type} {l : List α} {p : α → Bool} {i : Nat} (h : i < l.length) : (l.take (i + 1)).any p = ((l.take i).any p || p l[i]) := by
 rw [List.take_succ_eq_append_getElem h, List.any_append]; simp
set_option maxHeartbeats 1000000 in
set_option maxRecDepth 100000 in
theorem few14_any (k : Nat) (r : RulesD) : FnC Tryz.prog 17 [rul k r] [] (fun p loc => p = exB r.few ∧ loc = []) := by
 refine Zbe (i := 0) rfl (Zca (i := 4) rfl Zbl) fun ht => ?_
 refine Zbe (i := 0) rfl (Zca (i := 5) rfl Zbl) fun hr => ?_
 replace ht := ht.1; replace hr := hr.1
 simp only [maxLen] at ht hr
 refine Zb7 Tryz.func17 rfl Tryz.ntmps17 rfl fun w0 F0 out => ?_
 by_cases h0 : r.crits.length ≤ 70 ∧ r.bonus.length ≤ 70 ∧ r.malus.length ≤ 70 ∧ r.ties.length ≤ 20 ∧ r.rounds.length ≤ 12 ∧ r.prizes.length ≤ 70 ∧ r.points.length ≤ 70
 · obtain ⟨h1, h2, h3, h4, h5, h6, h7⟩ := h0
   have hf : r.few = (r.ties.all (fun t => decide (t.keys.length ≤ 40)) && r.rounds.all (fun y => decide (y.score.tot ≤ 400))) := by
     unfold RulesD.few
     simp only [decide_eq_false (Nat.not_lt.2 h1), decide_eq_false (Nat.not_lt.2 h2), decide_eq_false (Nat.not_lt.2 h3), decide_eq_false (Nat.not_lt.2 h4), decide_eq_false (Nat.not_lt.2 h5), decide_eq_false (Nat.not_lt.2 h6), decide_eq_false (Nat.not_lt.2 h7), Bool.false_or, Bool.not_false, Bool.true_and]
   rw [hf]
   (repeat' (first | refine Za8 ?_ | refine Za1 ?_ | refine Za6 ?_ | (apply Za9; (first | exact Za3 rfl | exact Za4 rfl | exact Zas (b := false) rfl (fun e => by cases e) (fun _ => rfl) | (apply Za7; exact Zab (k := 0) rfl rfl rfl rfl) | (apply Zat; exact Zaf rfl rfl rfl) | (apply Zah; exact Zcc rfl rfl) | (apply Zax; exact Zb3 rfl rfl)); exact rfl) | (apply Zbt; exact rfl; exact rfl; exact rfl; (first | (apply Za7; exact Zab (k := 0) rfl rfl rfl rfl) | (apply Zat; exact Zaf rfl rfl rfl) | (apply Zah; exact Zcc rfl rfl) | (apply Zax; exact Zb3 rfl rfl)); exact rfl) | refine Zaa ?_ | refine Zag ?_ | (apply Zaj; exact rfl; (apply Zc9; refine Zbz rfl ?_; intro _)) | (refine Zbm rfl rfl (fun hb => ?_) (fun hb => ?_) <;> (repeat (first | replace hb := Zam hb | replace hb := Zan hb)) <;> (try (exfalso; omega))) | (refine Zac rfl (fun hb => ?_) (fun hb => ?_) <;> (repeat (first | replace hb := Zam hb | replace hb := Zan hb)) <;> (try (exfalso; omega)))))
   all_goals (try (exfalso; omega))
   rename_i b1 _ _ _ _ _ _
   refine Zbv (fun i : Nat => ([(1, ex (.pointer (some ⟨b1, 0, none⟩))), (3, exI .i64 (i : Int))], [row b1 28 9 (rulesV k r)])) (fun i => i ≤ r.ties.length ∧ (r.ties.take i).all (fun t => decide (t.keys.length ≤ 40)) = true) (fun i => r.ties.length - i) 0 ?_ ⟨Nat.zero_le _, rfl⟩ fun i hi => ?_
   · exact Zae (by repeat (first | exact Zai | refine Zad rfl ?_)) (List.Sublist.refl _)
   obtain ⟨hi, hall⟩ := hi
   by_cases hlt : i < r.ties.length
   · by_cases he : r.ties[i].keys.length ≤ 40
     · (repeat' (first | refine Za8 ?_ | refine Za1 ?_ | refine Za6 ?_ | (apply Za9; (first | exact Za3 rfl | exact Za4 rfl | (apply Za7; first | exact Zb1 rfl rfl | exact Zab (k := 0) rfl rfl rfl rfl) | (apply Zat; first | exact Zaf rfl rfl rfl | exact Zay rfl rfl rfl) | (apply Zah; first | exact Zau rfl rfl | exact Zcc rfl rfl | exact Zbf rfl rfl) | (apply Zak; exact Zar rfl rfl rfl) | (apply Zax; exact Zb3 rfl rfl)); exact rfl) | refine Zaa ?_ | refine Zag ?_ | (refine Zac rfl (fun hb => ?_) (fun hb => ?_) <;> (repeat (first | replace hb := Zam hb | replace hb := Zan hb)) <;> (try (exfalso; omega)))))
       all_goals (try (exfalso; omega))
       exact ⟨i + 1, ⟨by omega, by rw [all_take_succ hlt, hall, decide_eq_true he]; rfl⟩, by omega, Zae (by repeat (first | exact Zai | refine Zad rfl ?_)) (List.Sublist.refl _)⟩
     · (repeat' (first | refine Za8 ?_ | refine Za1 ?_ | refine Za6 ?_ | (apply Za9; (first | exact Za3 rfl | exact Za4 rfl | (apply Za7; first | exact Zb1 rfl rfl | exact Zab (k := 0) rfl rfl rfl rfl) | (apply Zat; first | exact Zaf rfl rfl rfl | exact Zay rfl rfl rfl) | (apply Zah; first | exact Zau rfl rfl | exact Zcc rfl rfl) | (apply Zak; exact Zar rfl rfl rfl) | (apply Zax; exact Zb3 rfl rfl)); exact rfl) | refine Zaa ?_ | refine Zag ?_ | refine Zaq ?_ | (refine Zac rfl (fun hb => ?_) (fun hb => ?_) <;> (repeat (first | replace hb := Zam hb | replace hb := Zan hb)) <;> (try (exfalso; omega)))))
       all_goals (try (exfalso; omega))
       refine ⟨.inr rfl, ret1 rfl (.tmp rfl) (List.nil_sublist _) ⟨congrArg exB ?_, rfl⟩⟩
       have : r.ties.all (fun t => decide (t.keys.length ≤ 40)) = false := by
         rw [List.all_eq_false]; exact ⟨_, List.getElem_mem hlt, by simpa using he⟩
       rw [this]; rfl
   · have hk9 : i = r.ties.length := by omega
     subst hk9
     rw [List.take_length] at hall
     rw [hall, Bool.true_and]
     (repeat' (first | refine Za8 ?_ | refine Za1 ?_ | refine Za6 ?_ | (apply Za9; (first | exact Za3 rfl | exact Za4 rfl | (apply Za7; exact Zab (k := 0) rfl rfl rfl rfl) | (apply Zat; exact Zaf rfl rfl rfl) | (apply Zah; exact Zau rfl rfl) | (apply Zax; exact Zb3 rfl rfl)); exact rfl) | refine Zaa ?_ | refine Zbk ?_ | (refine Zac rfl (fun hb => ?_) (fun hb => ?_) <;> (repeat (first | replace hb := Zam hb | replace hb := Zan hb)) <;> (try (exfalso; omega)))))
     all_goals (try (exfalso; omega))
     refine Zbv (fun i : Nat => ([(1, ex (.pointer (some ⟨b1, 0, none⟩))), (4, exI .i64 (i : Int))], [row b1 28 9 (rulesV k r)])) (fun i => i ≤ r.rounds.length ∧ (r.rounds.take i).all (fun y => decide (y.score.tot ≤ 400)) = true) (fun i => r.rounds.length - i) 0 ?_ ⟨Nat.zero_le _, rfl⟩ fun i hi => ?_
     · exact Zae (by repeat (first | exact Zai | refine Zad rfl ?_)) (List.Sublist.refl _)
     obtain ⟨hi, hall2⟩ := hi
     by_cases hlt : i < r.rounds.length
     · have hp := Ex.partsN_spec r.rounds[i].score 400
       by_cases he : r.rounds[i].score.tot ≤ 400
       · have hp2 := hp.2.1 he
         (repeat' (first | refine Za8 ?_ | refine Za1 ?_ | refine Za6 ?_ | (apply Za9; (first | exact Za3 rfl | exact Za4 rfl | (apply Za7; first | exact Zab (k := 0) rfl rfl rfl rfl | exact Zb2 rfl rfl) | (apply Zat; first | exact Zaf rfl rfl rfl | exact Zay rfl rfl rfl) | (apply Zah; first | exact Zau rfl rfl | exact Zcc rfl rfl | exact Zbf rfl rfl) | (apply Zak; exact Zar rfl rfl rfl) | (apply Zax; exact Zb3 rfl rfl)); exact rfl) | refine Zaa ?_ | refine Zag ?_ | (apply Zaj; exact rfl; (apply Zao; (refine Zaw Tryz.func38 rfl (parts_any _ _ 400 (by decide)) rfl ?_; rintro _ _ ⟨rfl, rfl⟩))) | (refine Zac rfl (fun hb => ?_) (fun hb => ?_) <;> (repeat (first | replace hb := Zam hb | replace hb := Zan hb)) <;> (try (exfalso; omega)))))
         all_goals (try (exfalso; omega))
         exact ⟨i + 1, ⟨by omega, by rw [all_take_succ hlt, hall2, decide_eq_true he]; rfl⟩, by omega, Zae (by repeat (first | exact Zai | refine Zad rfl ?_)) (List.Sublist.refl _)⟩
       · have hp2 := hp.2.2 (by omega)
         (repeat' (first | refine Za8 ?_ | refine Za1 ?_ | refine Za6 ?_ | (apply Za9; (first | exact Za3 rfl | exact Za4 rfl | (apply Za7; first | exact Zab (k := 0) rfl rfl rfl rfl | exact Zb2 rfl rfl) | (apply Zat; first | exact Zaf rfl rfl rfl | exact Zay rfl rfl rfl) | (apply Zah; first | exact Zau rfl rfl | exact Zcc rfl rfl) | (apply Zak; exact Zar rfl rfl rfl) | (apply Zax; exact Zb3 rfl rfl)); exact rfl) | refine Zaa ?_ | refine Zag ?_ | refine Zaq ?_ | (apply Zaj; exact rfl; (apply Zao; (refine Zaw Tryz.func38 rfl (parts_any _ _ 400 (by decide)) rfl ?_; rintro _ _ ⟨rfl, rfl⟩))) | (refine Zac rfl (fun hb => ?_) (fun hb => ?_) <;> (repeat (first | replace hb := Zam hb | replace hb := Zan hb)) <;> (try (exfalso; omega)))))
         all_goals (try (exfalso; omega))
         refine ⟨.inr rfl, ret1 rfl (.tmp rfl) (List.nil_sublist _) ⟨congrArg exB ?_, rfl⟩⟩
         symm
         rw [List.all_eq_false]; exact ⟨_, List.getElem_mem hlt, by simpa using he⟩
     · have hk9 : i = r.rounds.length := by omega
       subst hk9
       rw [List.take_length] at hall2
       rw [hall2]
       (repeat' (first | refine Za8 ?_ | refine Za1 ?_ | refine Za6 ?_ | (apply Za9; (first | exact Za3 rfl | exact Za4 rfl | (apply Za7; exact Zab (k := 0) rfl rfl rfl rfl) | (apply Zat; exact Zaf rfl rfl rfl) | (apply Zah; exact Zau rfl rfl) | (apply Zax; exact Zb3 rfl rfl)); exact rfl) | refine Zaq ?_ | refine Zbk ?_ | (refine Zac rfl (fun hb => ?_) (fun hb => ?_) <;> (repeat (first | replace hb := Zam hb | replace hb := Zan hb)) <;> (try (exfalso; omega)))))
       all_goals (try (exfalso; omega))
       exact ⟨.inr rfl, ret1 rfl (.tmp rfl) (List.nil_sublist _) ⟨rfl, rfl⟩⟩
 · have hf : r.few = false := by
     cases e : r.few
     · rfl
     · exfalso; apply h0
       unfold RulesD.few at e
       simp only [Bool.and_eq_true, Bool.not_eq_true', Bool.or_eq_false_iff, decide_eq_false_iff_not] at e
       omega
   rw [hf]
   (repeat' (first | refine Za8 ?_ | refine Za1 ?_ | refine Za6 ?_ | (apply Za9; (first | exact Za3 rfl | exact Za4 rfl | exact Zas (b := true) rfl (fun _ => rfl) (fun e => by cases e) | exact Zas (b := false) rfl (fun e => by cases e) (fun _ => rfl) | (apply Za7; exact Zab (k := 0) rfl rfl rfl rfl) | (apply Zat; exact Zaf rfl rfl rfl) | (apply Zah; exact Zcc rfl rfl) | (apply Zax; exact Zb3 rfl rfl)); exact rfl) | (refine Zbq rfl rfl rfl rfl rfl ?_) | (apply Zbt; exact rfl; exact rfl; exact rfl; (first | (apply Za7; exact Zab (k := 0) rfl rfl rfl rfl) | (apply Zat; exact Zaf rfl rfl rfl) | (apply Zah; exact Zcc rfl rfl) | (apply Zax; exact Zb3 rfl rfl)); exact rfl) | refine Zaq ?_ | refine Zb4 rfl ?_ | (apply Zaj; exact rfl; (apply Zc9; refine Zbz rfl ?_; intro _)) | (refine Zbm rfl rfl (fun hb => ?_) (fun hb => ?_) <;> (repeat (first | replace hb := Zam hb | replace hb := Zan hb)) <;> (try (exfalso; fail))) | (refine Zac rfl (fun hb => ?_) (fun hb => ?_) <;> (repeat (first | replace hb := Zam hb | replace hb := Zan hb)) <;> (try (exfalso; omega)))))
   all_goals first | exact ⟨.inr rfl, ret1 rfl (.tmp rfl) (List.nil_sublist _) ⟨rfl, rfl⟩⟩ | (exfalso; omega)
set_option maxHeartbeats 1000000 in
set_option maxRecDepth 100000 in
theorem large14_any (k : Nat) (r : RulesD) (hsm : ∀ y ∈ r.rounds, y.score.tot ≤ 400) : FnC Tryz.prog 64 [rul k r] [] (fun p loc => p = exB r.large ∧ loc = []) := by
 refine Zbe (i := 0) rfl (Zca (i := 4) rfl Zbl) fun ht => ?_
 refine Zbe (i := 0) rfl (Zca (i := 5) rfl Zbl) fun hr => ?_
 replace ht := ht.1; replace hr := hr.1
 simp only [maxLen] at ht hr
 refine Zb7 Tryz.func64 rfl Tryz.ntmps64 rfl fun w0 F0 out => ?_
 by_cases h0 : r.crits.length ≤ 64 ∧ r.bonus.length ≤ 64 ∧ r.malus.length ≤ 64 ∧ r.ties.length ≤ 16 ∧ r.rounds.length ≤ 8 ∧ r.prizes.length ≤ 64 ∧ r.points.length ≤ 64
 · obtain ⟨h1, h2, h3, h4, h5, h6, h7⟩ := h0
   have hf : r.large = (r.ties.any (fun t => decide (32 < t.keys.length)) || r.rounds.any (fun y => decide (256 < y.score.tot) || decide (16 < y.score.depth))) := by
     unfold RulesD.large RulesD.big
     simp only [decide_eq_false (Nat.not_lt.2 h1), decide_eq_false (Nat.not_lt.2 h2), decide_eq_false (Nat.not_lt.2 h3), decide_eq_false (Nat.not_lt.2 h4), decide_eq_false (Nat.not_lt.2 h5), decide_eq_false (Nat.not_lt.2 h6), decide_eq_false (Nat.not_lt.2 h7), Bool.false_or]
   rw [hf]
   (repeat' (first | refine Za8 ?_ | refine Za1 ?_ | refine Za6 ?_ | (apply Za9; (first | exact Za3 rfl | exact Za4 rfl | exact Zas (b := false) rfl (fun e => by cases e) (fun _ => rfl) | (apply Za7; exact Zab (k := 0) rfl rfl rfl rfl) | (apply Zat; exact Zaf rfl rfl rfl) | (apply Zah; exact Zcc rfl rfl) | (apply Zax; exact Zb3 rfl rfl)); exact rfl) | (apply Zbt; exact rfl; exact rfl; exact rfl; (first | (apply Za7; exact Zab (k := 0) rfl rfl rfl rfl) | (apply Zat; exact Zaf rfl rfl rfl) | (apply Zah; exact Zcc rfl rfl) | (apply Zax; exact Zb3 rfl rfl)); exact rfl) | refine Zaa ?_ | refine Zag ?_ | (apply Zaj; exact rfl; (apply Zc9; refine Zbz rfl ?_; intro _)) | (refine Zbm rfl rfl (fun hb => ?_) (fun hb => ?_) <;> (repeat (first | replace hb := Zam hb | replace hb := Zan hb)) <;> (try (exfalso; omega))) | (refine Zac rfl (fun hb => ?_) (fun hb => ?_) <;> (repeat (first | replace hb := Zam hb | replace hb := Zan hb)) <;> (try (exfalso; omega)))))
   all_goals (try (exfalso; omega))
   rename_i b1 _ _ _ _ _ _
   refine Zbv (fun i : Nat => ([(1, ex (.pointer (some ⟨b1, 0, none⟩))), (3, exI .i64 (i : Int))], [row b1 28 9 (rulesV k r)])) (fun i => i ≤ r.ties.length ∧ (r.ties.take i).any (fun t => decide (32 < t.keys.length)) = false) (fun i => r.ties.length - i) 0 ?_ ⟨Nat.zero_le _, rfl⟩ fun i hi => ?_
   · exact Zae (by repeat (first | exact Zai | refine Zad rfl ?_)) (List.Sublist.refl _)
   obtain ⟨hi, hall⟩ := hi
   by_cases hlt : i < r.ties.length
   · by_cases he : r.ties[i].keys.length ≤ 32
     · (repeat' (first | refine Za8 ?_ | refine Za1 ?_ | refine Za6 ?_ | (apply Za9; (first | exact Za3 rfl | exact Za4 rfl | (apply Za7; first | exact Zb1 rfl rfl | exact Zab (k := 0) rfl rfl rfl rfl) | (apply Zat; first | exact Zaf rfl rfl rfl | exact Zay rfl rfl rfl) | (apply Zah; first | exact Zau rfl rfl | exact Zcc rfl rfl | exact Zbf rfl rfl) | (apply Zak; exact Zar rfl rfl rfl) | (apply Zax; exact Zb3 rfl rfl)); exact rfl) | refine Zaa ?_ | refine Zag ?_ | (refine Zac rfl (fun hb => ?_) (fun hb => ?_) <;> (repeat (first | replace hb := Zam hb | replace hb := Zan hb)) <;> (try (exfalso; omega)))))
       all_goals (try (exfalso; omega))
       exact ⟨i + 1, ⟨by omega, by rw [any_take_succ hlt, hall, decide_eq_false (by omega)]; rfl⟩, by omega, Zae (by repeat (first | exact Zai | refine Zad rfl ?_)) (List.Sublist.refl _)⟩
     · (repeat' (first | refine Za8 ?_ | refine Za1 ?_ | refine Za6 ?_ | (apply Za9; (first | exact Za3 rfl | exact Za4 rfl | (apply Za7; first | exact Zb1 rfl rfl | exact Zab (k := 0) rfl rfl rfl rfl) | (apply Zat; first | exact Zaf rfl rfl rfl | exact Zay rfl rfl rfl) | (apply Zah; first | exact Zau rfl rfl | exact Zcc rfl rfl) | (apply Zak; exact Zar rfl rfl rfl) | (apply Zax; exact Zb3 rfl rfl)); exact rfl) | refine Zaa ?_ | refine Zag ?_ | refine Zaq ?_ | (refine Zac rfl (fun hb => ?_) (fun hb => ?_) <;> (repeat (first | replace hb := Zam hb | replace hb := Zan hb)) <;> (try (exfalso; omega)))))
       all_goals (try (exfalso; omega))
       refine ⟨.inr rfl, ret1 rfl (.tmp rfl) (List.nil_sublist _) ⟨congrArg exB ?_, rfl⟩⟩
       have : r.ties.any (fun t => decide (32 < t.keys.length)) = true := by
         rw [List.any_eq_true]; exact ⟨_, List.getElem_mem hlt, by simpa using he⟩
       rw [this]; rfl
   · have hk9 : i = r.ties.length := by omega
     subst hk9
     rw [List.take_length] at hall
     rw [hall, Bool.false_or]
     (repeat' (first | refine Za8 ?_ | refine Za1 ?_ | refine Za6 ?_ | (apply Za9; (first | exact Za3 rfl | exact Za4 rfl | (apply Za7; exact Zab (k := 0) rfl rfl rfl rfl) | (apply Zat; exact Zaf rfl rfl rfl) | (apply Zah; exact Zau rfl rfl) | (apply Zax; exact Zb3 rfl rfl)); exact rfl) | refine Zaa ?_ | refine Zbk ?_ | (refine Zac rfl (fun hb => ?_) (fun hb => ?_) <;> (repeat (first | replace hb := Zam hb | replace hb := Zan hb)) <;> (try (exfalso; omega)))))
     all_goals (try (exfalso; omega))
     refine Zbv (fun i : Nat => ([(1, ex (.pointer (some ⟨b1, 0, none⟩))), (4, exI .i64 (i : Int))], [row b1 28 9 (rulesV k r)])) (fun i => i ≤ r.rounds.length ∧ (r.rounds.take i).any (fun y => decide (256 < y.score.tot) || decide (16 < y.score.depth)) = false) (fun i => r.rounds.length - i) 0 ?_ ⟨Nat.zero_le _, rfl⟩ fun i hi => ?_
     · exact Zae (by repeat (first | exact Zai | refine Zad rfl ?_)) (List.Sublist.refl _)
     obtain ⟨hi, hall2⟩ := hi
     by_cases hlt : i < r.rounds.length
     · have hp := Ex.partsN_spec r.rounds[i].score 256
       have hsi := hsm _ (List.getElem_mem hlt)
       have hdep := depth_any k r.rounds[i].score (by omega)
       by_cases he : r.rounds[i].score.tot ≤ 256
       · have hp2 := hp.2.1 he
         by_cases hd : r.rounds[i].score.depth ≤ 16
         · (repeat' (first | refine Za8 ?_ | refine Za1 ?_ | refine Za6 ?_ | (apply Za9; (first | exact Za3 rfl | exact Za4 rfl | exact Zas (b := false) rfl (fun e => by cases e) (fun _ => rfl) | (apply Za7; first | exact Zab (k := 0) rfl rfl rfl rfl | exact Zb2 rfl rfl) | (apply Zat; first | exact Zaf rfl rfl rfl | exact Zay rfl rfl rfl) | (apply Zah; first | exact Zau rfl rfl | exact Zcc rfl rfl | exact Zbf rfl rfl) | (apply Zak; exact Zar rfl rfl rfl) | (apply Zax; exact Zb3 rfl rfl)); exact rfl) | (apply Zbt; exact rfl; exact rfl; exact rfl; (first | exact Za3 rfl | (apply Za7; first | exact Zab (k := 0) rfl rfl rfl rfl | exact Zb2 rfl rfl) | (apply Zat; first | exact Zaf rfl rfl rfl | exact Zay rfl rfl rfl) | (apply Zah; exact Zcc rfl rfl) | (apply Zak; exact Zar rfl rfl rfl)); exact rfl) | refine Zaa ?_ | refine Zag ?_ | (apply Zaj; exact rfl; (apply Zao; (refine Zaw Tryz.func38 rfl (parts_any _ _ 256 (by decide)) rfl ?_; rintro _ _ ⟨rfl, rfl⟩))) | (apply Zc8; exact rfl; exact rfl; exact rfl; exact rfl; (apply Zao; (refine Zaw Tryz.func98 rfl hdep rfl ?_; rintro _ _ ⟨rfl, rfl⟩))) | (refine Zbm rfl rfl (fun hb => ?_) (fun hb => ?_) <;> (repeat (first | replace hb := Zam hb | replace hb := Zan hb)) <;> (try (exfalso; omega))) | (refine Zac rfl (fun hb => ?_) (fun hb => ?_) <;> (repeat (first | replace hb := Zam hb | replace hb := Zan hb)) <;> (try (exfalso; omega)))))
           all_goals (try (exfalso; omega))
           exact ⟨i + 1, ⟨by omega, by rw [any_take_succ hlt, hall2, decide_eq_false (by omega), decide_eq_false (by omega)]; rfl⟩, by omega, Zae (by repeat (first | exact Zai | refine Zad rfl ?_)) (List.Sublist.refl _)⟩
         · (repeat' (first | refine Za8 ?_ | refine Za1 ?_ | refine Za6 ?_ | (apply Za9; (first | exact Za3 rfl | exact Za4 rfl | exact Zas (b := false) rfl (fun e => by cases e) (fun _ => rfl) | (apply Za7; first | exact Zab (k := 0) rfl rfl rfl rfl | exact Zb2 rfl rfl) | (apply Zat; first | exact Zaf rfl rfl rfl | exact Zay rfl rfl rfl) | (apply Zah; first | exact Zau rfl rfl | exact Zcc rfl rfl) | (apply Zak; exact Zar rfl rfl rfl) | (apply Zax; exact Zb3 rfl rfl)); exact rfl) | (apply Zbt; exact rfl; exact rfl; exact rfl; (first | exact Za3 rfl | (apply Za7; first | exact Zab (k := 0) rfl rfl rfl rfl | exact Zb2 rfl rfl) | (apply Zat; first | exact Zaf rfl rfl rfl | exact Zay rfl rfl rfl) | (apply Zah; exact Zcc rfl rfl) | (apply Zak; exact Zar rfl rfl rfl)); exact rfl) | refine Zaa ?_ | refine Zag ?_ | refine Zaq ?_ | (apply Zaj; exact rfl; (apply Zao; (refine Zaw Tryz.func38 rfl (parts_any _ _ 256 (by decide)) rfl ?_; rintro _ _ ⟨rfl, rfl⟩))) | (apply Zc8; exact rfl; exact rfl; exact rfl; exact rfl; (apply Zao; (refine Zaw Tryz.func98 rfl hdep rfl ?_; rintro _ _ ⟨rfl, rfl⟩))) | (refine Zbm rfl rfl (fun hb => ?_) (fun hb => ?_) <;> (repeat (first | replace hb := Zam hb | replace hb := Zan hb)) <;> (try (exfalso; omega))) | (refine Zac rfl (fun hb => ?_) (fun hb => ?_) <;> (repeat (first | replace hb := Zam hb | replace hb := Zan hb)) <;> (try (exfalso; omega)))))
           all_goals (try (exfalso; omega))
           refine ⟨.inr rfl, ret1 rfl (.tmp rfl) (List.nil_sublist _) ⟨congrArg exB ?_, rfl⟩⟩
           symm
           rw [List.any_eq_true]; exact ⟨_, List.getElem_mem hlt, by simp; omega⟩
       · have hp2 := hp.2.2 (by omega)
         (repeat' (first | refine Za8 ?_ | refine Za1 ?_ | refine Za6 ?_ | (apply Za9; (first | exact Za3 rfl | exact Za4 rfl | exact Zas (b := true) rfl (fun _ => rfl) (fun e => by cases e) | (apply Za7; first | exact Zab (k := 0) rfl rfl rfl rfl | exact Zb2 rfl rfl) | (apply Zat; first | exact Zaf rfl rfl rfl | exact Zay rfl rfl rfl) | (apply Zah; first | exact Zau rfl rfl | exact Zcc rfl rfl) | (apply Zak; exact Zar rfl rfl rfl) | (apply Zax; exact Zb3 rfl rfl)); exact rfl) | (refine Zbq rfl rfl rfl rfl rfl ?_) | refine Zaa ?_ | refine Zag ?_ | refine Zaq ?_ | refine Zb4 rfl ?_ | (apply Zaj; exact rfl; (apply Zao; (refine Zaw Tryz.func38 rfl (parts_any _ _ 256 (by decide)) rfl ?_; rintro _ _ ⟨rfl, rfl⟩))) | (refine Zbm rfl rfl (fun hb => ?_) (fun hb => ?_) <;> (repeat (first | replace hb := Zam hb | replace hb := Zan hb)) <;> (try (exfalso; omega))) | (refine Zac rfl (fun hb => ?_) (fun hb => ?_) <;> (repeat (first | replace hb := Zam hb | replace hb := Zan hb)) <;> (try (exfalso; omega)))))
         all_goals (try (exfalso; omega))
         refine ⟨.inr rfl, ret1 rfl (.tmp rfl) (List.nil_sublist _) ⟨congrArg exB ?_, rfl⟩⟩
         symm
         rw [List.any_eq_true]; exact ⟨_, List.getElem_mem hlt, by simp; omega⟩
     · have hk9 : i = r.rounds.length := by omega
       subst hk9
       rw [List.take_length] at hall2
       rw [hall2]
       (repeat' (first | refine Za8 ?_ | refine Za1 ?_ | refine Za6 ?_ | (apply Za9; (first | exact Za3 rfl | exact Za4 rfl | (apply Za7; exact Zab (k := 0) rfl rfl rfl rfl) | (apply Zat; exact Zaf rfl rfl rfl) | (apply Zah; exact Zau rfl rfl) | (apply Zax; exact Zb3 rfl rfl)); exact rfl) | refine Zaq ?_ | refine Zbk ?_ | (refine Zac rfl (fun hb => ?_) (fun hb => ?_) <;> (repeat (first | replace hb := Zam hb | replace hb := Zan hb)) <;> (try (exfalso; omega)))))
       all_goals (try (exfalso; omega))
       exact ⟨.inr rfl, ret1 rfl (.tmp rfl) (List.nil_sublist _) ⟨rfl, rfl⟩⟩
 · have hf : r.large = true := by
     unfold RulesD.large RulesD.big
     simp only [Bool.or_eq_true, decide_eq_true_eq]
     omega
   rw [hf]
   (repeat' (first | refine Za8 ?_ | refine Za1 ?_ | refine Za6 ?_ | (apply Za9; (first | exact Za3 rfl | exact Za4 rfl | exact Zas (b := true) rfl (fun _ => rfl) (fun e => by cases e) | exact Zas (b := false) rfl (fun e => by cases e) (fun _ => rfl) | (apply Za7; exact Zab (k := 0) rfl rfl rfl rfl) | (apply Zat; exact Zaf rfl rfl rfl) | (apply Zah; exact Zcc rfl rfl) | (apply Zax; exact Zb3 rfl rfl)); exact rfl) | (refine Zbq rfl rfl rfl rfl rfl ?_) | (apply Zbt; exact rfl; exact rfl; exact rfl; (first | (apply Za7; exact Zab (k := 0) rfl rfl rfl rfl) | (apply Zat; exact Zaf rfl rfl rfl) | (apply Zah; exact Zcc rfl rfl) | (apply Zax; exact Zb3 rfl rfl)); exact rfl) | refine Zaq ?_ | refine Zb4 rfl ?_ | (apply Zaj; exact rfl; (apply Zc9; refine Zbz rfl ?_; intro _)) | (refine Zbm rfl rfl (fun hb => ?_) (fun hb => ?_) <;> (repeat (first | replace hb := Zam hb | replace hb := Zan hb)) <;> (try (exfalso; fail))) | (refine Zac rfl (fun hb => ?_) (fun hb => ?_) <;> (repeat (first | replace hb := Zam hb | replace hb := Zan hb)) <;> (try (exfalso; omega)))))
   all_goals first | exact ⟨.inr rfl, ret1 rfl (.tmp rfl) (List.nil_sublist _) ⟨rfl, rfl⟩⟩ | (exfalso; omega)
end Go.Proofs.YthldagplhklbnaaGreatDoor
namespace Go.Proofs.YthldagplhklbnaaGreatDoor
open Go Go.Fr
set_option maxRecDepth 100000 in
instance ti1 : TI Tryz.prog 1 1 8 .nilFunc := ⟨_, rfl, rfl, rfl, rfl⟩
set_option maxRecDepth 100000 in
instance ti29 : TI Tryz.prog 29 1 8 .nilFunc := ⟨_, rfl, rfl, rfl, rfl⟩
set_option maxRecDepth 100000 in
instance ti30 : TI Tryz.prog 30 1 8 .nilFunc := ⟨_, rfl, rfl, rfl, rfl⟩
set_option maxRecDepth 100000 in
instance ti32 : TI Tryz.prog 32 1 8 .nilFunc := ⟨_, rfl, rfl, rfl, rfl⟩
set_option maxRecDepth 100000 in
instance ti35 : TI Tryz.prog 35 1 8 .nilFunc := ⟨_, rfl, rfl, rfl, rfl⟩
set_option maxRecDepth 100000 in
instance ti36 : TI Tryz.prog 36 1 8 .nilFunc := ⟨_, rfl, rfl, rfl, rfl⟩
set_option maxRecDepth 100000 in
instance ti37 : TI Tryz.prog 37 1 8 .nilFunc := ⟨_, rfl, rfl, rfl, rfl⟩
set_option maxRecDepth 100000 in
instance ti43 : TI Tryz.prog 43 1 8 .nilFunc := ⟨_, rfl, rfl, rfl, rfl⟩
set_option maxRecDepth 100000 in
instance ti51 : TI Tryz.prog 51 1 8 .nilFunc := ⟨_, rfl, rfl, rfl, rfl⟩
set_option maxRecDepth 100000 in
instance ti52 : TI Tryz.prog 52 1 8 .nilFunc := ⟨_, rfl, rfl, rfl, rfl⟩
set_option maxRecDepth 100000 in
instance ti53 : TI Tryz.prog 53 1 8 .nilFunc := ⟨_, rfl, rfl, rfl, rfl⟩
set_option maxRecDepth 100000 in
instance ti54 : TI Tryz.prog 54 1 8 .nilFunc := ⟨_, rfl, rfl, rfl, rfl⟩
set_option maxRecDepth 100000 in
instance ti55 : TI Tryz.prog 55 1 8 .nilFunc := ⟨_, rfl, rfl, rfl, rfl⟩
set_option maxRecDepth 100000 in
instance ti57 : TI Tryz.prog 57 1 8 .nilFunc := ⟨_, rfl, rfl, rfl, rfl⟩
set_option maxRecDepth 100000 in
instance ti58 : TI Tryz.prog 58 1 8 .nilFunc := ⟨_, rfl, rfl, rfl, rfl⟩
set_option maxRecDepth 100000 in
instance ti59 : TI Tryz.prog 59 1 8 .nilFunc := ⟨_, rfl, rfl, rfl, rfl⟩
set_option maxRecDepth 100000 in
instance ti60 : TI Tryz.prog 60 1 8 .nilFunc := ⟨_, rfl, rfl, rfl, rfl⟩
set_option maxRecDepth 100000 in
instance ti61 : TI Tryz.prog 61 1 8 .nilFunc := ⟨_, rfl, rfl, rfl, rfl⟩
set_option maxRecDepth 100000 in
instance ti62 : TI Tryz.prog 62 1 8 .nilFunc := ⟨_, rfl, rfl, rfl, rfl⟩
set_option maxRecDepth 100000 in
instance ti63 : TI Tryz.prog 63 1 8 .nilFunc := ⟨_, rfl, rfl, rfl, rfl⟩
set_option maxRecDepth 100000 in
instance ti64 : TI Tryz.prog 64 1 8 .nilFunc := ⟨_, rfl, rfl, rfl, rfl⟩
set_option maxRecDepth 100000 in
instance ti65 : TI Tryz.prog 65 1 8 .nilFunc := ⟨_, rfl, rfl, rfl, rfl⟩
set_option maxRecDepth 100000 in
instance ti66 : TI Tryz.prog 66 1 8 .nilFunc := ⟨_, rfl, rfl, rfl, rfl⟩
set_option maxRecDepth 100000 in
instance ti67 : TI Tryz.prog 67 1 8 .nilFunc := ⟨_, rfl, rfl, rfl, rfl⟩
set_option maxRecDepth 100000 in
instance ti70 : TI Tryz.prog 70 1 8 .nilFunc := ⟨_, rfl, rfl, rfl, rfl⟩
set_option maxRecDepth 100000 in
instance ti71 : TI Tryz.prog 71 1 8 .nilFunc := ⟨_, rfl, rfl, rfl, rfl⟩
set_option maxRecDepth 100000 in
instance ti72 : TI Tryz.prog 72 1 8 .nilFunc := ⟨_, rfl, rfl, rfl, rfl⟩
set_option maxRecDepth 100000 in
instance ti73 : TI Tryz.prog 73 1 8 .nilFunc := ⟨_, rfl, rfl, rfl, rfl⟩
set_option maxRecDepth 100000 in
instance ti75 : TI Tryz.prog 75 1 8 .nilFunc := ⟨_, rfl, rfl, rfl, rfl⟩
set_option maxRecDepth 100000 in
instance ti76 : TI Tryz.prog 76 1 8 .nilFunc := ⟨_, rfl, rfl, rfl, rfl⟩
set_option maxRecDepth 100000 in
instance ti77 : TI Tryz.prog 77 1 8 .nilFunc := ⟨_, rfl, rfl, rfl, rfl⟩
set_option maxRecDepth 100000 in
instance ti78 : TI Tryz.prog 78 1 8 .nilFunc := ⟨_, rfl, rfl, rfl, rfl⟩
set_option maxRecDepth 100000 in
instance ti82 : TI Tryz.prog 82 1 8 .nilFunc := ⟨_, rfl, rfl, rfl, rfl⟩
set_option maxRecDepth 100000 in
instance ti83 : TI Tryz.prog 83 1 8 .nilFunc := ⟨_, rfl, rfl, rfl, rfl⟩
set_option maxRecDepth 100000 in
instance ti84 : TI Tryz.prog 84 1 8 .nilFunc := ⟨_, rfl, rfl, rfl, rfl⟩
set_option maxRecDepth 100000 in
instance ti87 : TI Tryz.prog 87 1 8 .nilFunc := ⟨_, rfl, rfl, rfl, rfl⟩
set_option maxRecDepth 100000 in
instance ti88 : TI Tryz.prog 88 1 8 .nilFunc := ⟨_, rfl, rfl, rfl, rfl⟩
set_option maxRecDepth 100000 in
instance ti89 : TI Tryz.prog 89 1 8 .nilFunc := ⟨_, rfl, rfl, rfl, rfl⟩
set_option maxRecDepth 100000 in
instance ti90 : TI Tryz.prog 90 1 8 .nilFunc := ⟨_, rfl, rfl, rfl, rfl⟩
set_option maxRecDepth 100000 in
instance ti91 : TI Tryz.prog 91 1 8 .nilFunc := ⟨_, rfl, rfl, rfl, rfl⟩
set_option maxRecDepth 100000 in
instance ti92 : TI Tryz.prog 92 1 8 .nilFunc := ⟨_, rfl, rfl, rfl, rfl⟩
set_option maxRecDepth 100000 in
instance ti93 : TI Tryz.prog 93 1 8 .nilFunc := ⟨_, rfl, rfl, rfl, rfl⟩
set_option maxRecDepth 100000 in
instance ti95 : TI Tryz.prog 95 1 8 .nilFunc := ⟨_, rfl, rfl, rfl, rfl⟩
set_option maxRecDepth 100000 in
instance ti96 : TI Tryz.prog 96 1 8 .nilFunc := ⟨_, rfl, rfl, rfl, rfl⟩
set_option maxRecDepth 100000 in
instance ti97 : TI Tryz.prog 97 1 8 .nilFunc := ⟨_, rfl, rfl, rfl, rfl⟩
set_option maxRecDepth 100000 in
instance ti98 : TI Tryz.prog 98 1 8 .nilFunc := ⟨_, rfl, rfl, rfl, rfl⟩
set_option maxRecDepth 100000 in
instance ti99 : TI Tryz.prog 99 1 8 .nilFunc := ⟨_, rfl, rfl, rfl, rfl⟩
set_option maxRecDepth 100000 in
instance ti101 : TI Tryz.prog 101 1 8 .nilFunc := ⟨_, rfl, rfl, rfl, rfl⟩
set_option maxRecDepth 100000 in
instance ti105 : TI Tryz.prog 105 1 8 .nilFunc := ⟨_, rfl, rfl, rfl, rfl⟩
set_option maxRecDepth 100000 in
instance ti108 : TI Tryz.prog 108 1 8 .nilFunc := ⟨_, rfl, rfl, rfl, rfl⟩
set_option maxRecDepth 100000 in
instance ti109 : TI Tryz.prog 109 1 8 .nilFunc := ⟨_, rfl, rfl, rfl, rfl⟩
set_option maxRecDepth 100000 in
instance ti111 : TI Tryz.prog 111 1 8 .nilFunc := ⟨_, rfl, rfl, rfl, rfl⟩
set_option maxRecDepth 100000 in
instance ti113 : TI Tryz.prog 113 1 8 .nilFunc := ⟨_, rfl, rfl, rfl, rfl⟩
set_option maxRecDepth 100000 in
instance ti114 : TI Tryz.prog 114 1 8 .nilFunc := ⟨_, rfl, rfl, rfl, rfl⟩
set_option maxRecDepth 100000 in
instance ti115 : TI Tryz.prog 115 1 8 .nilFunc := ⟨_, rfl, rfl, rfl, rfl⟩
set_option maxRecDepth 100000 in
instance ti116 : TI Tryz.prog 116 1 8 .nilFunc := ⟨_, rfl, rfl, rfl, rfl⟩
set_option maxRecDepth 100000 in
instance ti117 : TI Tryz.prog 117 1 8 .nilFunc := ⟨_, rfl, rfl, rfl, rfl⟩
set_option maxRecDepth 100000 in
instance ti118 : TI Tryz.prog 118 1 8 .nilFunc := ⟨_, rfl, rfl, rfl, rfl⟩
set_option maxRecDepth 100000 in
instance ti119 : TI Tryz.prog 119 1 8 .nilFunc := ⟨_, rfl, rfl, rfl, rfl⟩
set_option maxRecDepth 100000 in
instance ti120 : TI Tryz.prog 120 1 8 .nilFunc := ⟨_, rfl, rfl, rfl, rfl⟩
set_option maxRecDepth 100000 in
instance ti121 : TI Tryz.prog 121 1 8 .nilFunc := ⟨_, rfl, rfl, rfl, rfl⟩
set_option maxRecDepth 100000 in
instance ti122 : TI Tryz.prog 122 1 8 .nilFunc := ⟨_, rfl, rfl, rfl, rfl⟩
set_option maxRecDepth 100000 in
instance ti123 : TI Tryz.prog 123 1 8 .nilFunc := ⟨_, rfl, rfl, rfl, rfl⟩
set_option maxRecDepth 100000 in
instance ti124 : TI Tryz.prog 124 1 8 .nilFunc := ⟨_, rfl, rfl, rfl, rfl⟩
set_option maxRecDepth 100000 in
instance ti126 : TI Tryz.prog 126 1 8 .nilFunc := ⟨_, rfl, rfl, rfl, rfl⟩
set_option maxRecDepth 100000 in
instance ti127 : TI Tryz.prog 127 1 8 .nilFunc := ⟨_, rfl, rfl, rfl, rfl⟩
set_option maxRecDepth 100000 in
instance ti130 : TI Tryz.prog 130 1 8 .nilFunc := ⟨_, rfl, rfl, rfl, rfl⟩
set_option maxRecDepth 100000 in
instance ti133 : TI Tryz.prog 133 1 8 .nilFunc := ⟨_, rfl, rfl, rfl, rfl⟩
set_option maxRecDepth 100000 in
instance ti134 : TI Tryz.prog 134 1 8 .nilFunc := ⟨_, rfl, rfl, rfl, rfl⟩
set_option maxRecDepth 100000 in
instance ti135 : TI Tryz.prog 135 1 8 .nilFunc := ⟨_, rfl, rfl, rfl, rfl⟩
set_option maxRecDepth 100000 in
instance ti136 : TI Tryz.prog 136 1 8 .nilFunc := ⟨_, rfl, rfl, rfl, rfl⟩
set_option maxRecDepth 100000 in
instance ti137 : TI Tryz.prog 137 1 8 .nilFunc := ⟨_, rfl, rfl, rfl, rfl⟩
set_option maxRecDepth 100000 in
instance ti138 : TI Tryz.prog 138 1 8 .nilFunc := ⟨_, rfl, rfl, rfl, rfl⟩
set_option maxRecDepth 100000 in
instance ti139 : TI Tryz.prog 139 1 8 .nilFunc := ⟨_, rfl, rfl, rfl, rfl⟩
set_option maxRecDepth 100000 in
instance ti141 : TI Tryz.prog 141 1 8 .nilFunc := ⟨_, rfl, rfl, rfl, rfl⟩
set_option maxRecDepth 100000 in
instance ti146 : TI Tryz.prog 146 1 8 .nilFunc := ⟨_, rfl, rfl, rfl, rfl⟩
set_option maxRecDepth 100000 in
instance ti147 : TI Tryz.prog 147 1 8 .nilFunc := ⟨_, rfl, rfl, rfl, rfl⟩
set_option maxRecDepth 100000 in
instance ti148 : TI Tryz.prog 148 1 8 .nilFunc := ⟨_, rfl, rfl, rfl, rfl⟩
set_option maxRecDepth 100000 in
instance ti149 : TI Tryz.prog 149 1 8 .nilFunc := ⟨_, rfl, rfl, rfl, rfl⟩
set_option maxRecDepth 100000 in
instance ti150 : TI Tryz.prog 150 1 8 .nilFunc := ⟨_, rfl, rfl, rfl, rfl⟩
set_option maxRecDepth 100000 in
instance ti151 : TI Tryz.prog 151 1 8 .nilFunc := ⟨_, rfl, rfl, rfl, rfl⟩
set_option maxRecDepth 100000 in
instance ti152 : TI Tryz.prog 152 1 8 .nilFunc := ⟨_, rfl, rfl, rfl, rfl⟩
set_option maxRecDepth 100000 in
instance ti154 : TI Tryz.prog 154 1 8 .nilFunc := ⟨_, rfl, rfl, rfl, rfl⟩
set_option maxRecDepth 100000 in
instance ti155 : TI Tryz.prog 155 1 8 .nilFunc := ⟨_, rfl, rfl, rfl, rfl⟩
set_option maxRecDepth 100000 in
instance ti160 : TI Tryz.prog 160 1 8 .nilFunc := ⟨_, rfl, rfl, rfl, rfl⟩
set_option maxRecDepth 100000 in
instance ti169 : TI Tryz.prog 169 1 8 .nilFunc := ⟨_, rfl, rfl, rfl, rfl⟩
set_option maxRecDepth 100000 in
instance ti172 : TI Tryz.prog 172 1 8 .nilFunc := ⟨_, rfl, rfl, rfl, rfl⟩
set_option maxRecDepth 100000 in
instance ti176 : TI Tryz.prog 176 1 8 .nilFunc := ⟨_, rfl, rfl, rfl, rfl⟩
set_option maxRecDepth 100000 in
instance ti182 : TI Tryz.prog 182 1 8 .nilFunc := ⟨_, rfl, rfl, rfl, rfl⟩
set_option maxRecDepth 100000 in
instance ti185 : TI Tryz.prog 185 1 8 .nilFunc := ⟨_, rfl, rfl, rfl, rfl⟩
end Go.Proofs.YthldagplhklbnaaGreatDoor
namespace Go.Proofs.YthldagplhklbnaaGreatDoor
open Go Go.RowKit Go.Kx Go.Fr
set_option maxRecDepth 100000 in
theorem cloneExpr_own (k : Nat) (l : List Ex) : FnC Tryz.prog 59 [isl (eEx k) l] [] (fun p loc => ∃ v, p = ex v ∧ loc = [vec v 46 5 l.length (l.flatMap (exV k))]) := by
 refine Zbe (i := 0) rfl Zbl fun hl => ?_
 obtain ⟨hl, hby⟩ := hl
 simp only [maxLen] at hl
 have hby : l.length * 64 ≤ 140737488355328 := hby
 refine Zb7 Tryz.func59 rfl Tryz.ntmps59 rfl fun w0 F0 out => ?_
 (repeat' (first | refine Za8 ?_ | refine Za1 ?_ | refine Za6 ?_ | (apply Za9; (first | exact Za3 rfl | exact Za4 rfl); exact rfl) | refine Zag ?_ | refine Zaq ?_ | (apply Zaj; exact rfl; first | (apply Zcj; ((refine WO_append_row (k := 0) (l0 := []) rfl rfl rfl rfl (by exact Src_isl rfl) rfl ?_)); intro _) | (apply g_binE; refine WO_isnil rfl rfl rfl ?_; intro _ _) | (apply Zcb; (refine WO_bslice0 rfl ?_); intro _)) | (refine Zac rfl (fun hb => ?_) (fun hb => ?_) <;> (repeat (fail)) <;> (try (exfalso; fail)))))
 · rename_i hnil
   obtain rfl := hnil hb
   apply retP_leads
   · exact Leads_nilv 46 5 Leads.refl
   · exact ⟨.inr rfl, ret1 rfl (.tmp rfl) (List.Sublist.refl _) ⟨_, rfl, rfl⟩⟩
 · refine ⟨.inr rfl, ret1 rfl (.tmp rfl) (List.Sublist.refl _) ⟨_, rfl, ?_⟩⟩
   simp
set_option maxRecDepth 100000 in
theorem cloneTie_own (l : List TieD) : FnC Tryz.prog 60 [isl eTie l] [] (fun p loc => ∃ v, p = ex v ∧ loc = [vec v 40 2 l.length (l.flatMap (tieV))]) := by
 refine Zbe (i := 0) rfl Zbl fun hl => ?_
 obtain ⟨hl, hby⟩ := hl
 simp only [maxLen] at hl
 have hby : l.length * 40 ≤ 140737488355328 := hby
 refine Zb7 Tryz.func60 rfl Tryz.ntmps60 rfl fun w0 F0 out => ?_
 (repeat' (first | refine Za8 ?_ | refine Za1 ?_ | refine Za6 ?_ | (apply Za9; (first | exact Za3 rfl | exact Za4 rfl); exact rfl) | refine Zag ?_ | refine Zaq ?_ | (apply Zaj; exact rfl; first | (apply Zcj; ((refine WO_append_row (k := 0) (l0 := []) rfl rfl rfl rfl (by exact Src_isl rfl) rfl ?_)); intro _) | (apply g_binE; refine WO_isnil rfl rfl rfl ?_; intro _ _) | (apply Zcb; (refine WO_bslice0 rfl ?_); intro _)) | (refine Zac rfl (fun hb => ?_) (fun hb => ?_) <;> (repeat (fail)) <;> (try (exfalso; fail)))))
 · rename_i hnil
   obtain rfl := hnil hb
   apply retP_leads
   · exact Leads_nilv 40 2 Leads.refl
   · exact ⟨.inr rfl, ret1 rfl (.tmp rfl) (List.Sublist.refl _) ⟨_, rfl, rfl⟩⟩
 · refine ⟨.inr rfl, ret1 rfl (.tmp rfl) (List.Sublist.refl _) ⟨_, rfl, ?_⟩⟩
   simp
set_option maxRecDepth 100000 in
theorem cloneRound_own (k : Nat) (l : List RoundD) : FnC Tryz.prog 61 [isl (eRound k) l] [] (fun p loc => ∃ v, p = ex v ∧ loc = [vec v 48 13 l.length (l.flatMap (roundV k))]) := by
 refine Zbe (i := 0) rfl Zbl fun hl => ?_
 obtain ⟨hl, hby⟩ := hl
 simp only [maxLen] at hl
 have hby : l.length * 136 ≤ 140737488355328 := hby
 refine Zb7 Tryz.func61 rfl Tryz.ntmps61 rfl fun w0 F0 out => ?_
 (repeat' (first | refine Za8 ?_ | refine Za1 ?_ | refine Za6 ?_ | (apply Za9; (first | exact Za3 rfl | exact Za4 rfl); exact rfl) | refine Zag ?_ | refine Zaq ?_ | (apply Zaj; exact rfl; first | (apply Zcj; ((refine WO_append_row (k := 0) (l0 := []) rfl rfl rfl rfl (by exact Src_isl rfl) rfl ?_)); intro _) | (apply g_binE; refine WO_isnil rfl rfl rfl ?_; intro _ _) | (apply Zcb; (refine WO_bslice0 rfl ?_); intro _)) | (refine Zac rfl (fun hb => ?_) (fun hb => ?_) <;> (repeat (fail)) <;> (try (exfalso; fail)))))
 · rename_i hnil
   obtain rfl := hnil hb
   apply retP_leads
   · exact Leads_nilv 48 13 Leads.refl
   · exact ⟨.inr rfl, ret1 rfl (.tmp rfl) (List.Sublist.refl _) ⟨_, rfl, rfl⟩⟩
 · refine ⟨.inr rfl, ret1 rfl (.tmp rfl) (List.Sublist.refl _) ⟨_, rfl, ?_⟩⟩
   simp
set_option maxRecDepth 100000 in
theorem cloneKey_own (l : List KeyD) : FnC Tryz.prog 62 [isl eKey l] [] (fun p loc => ∃ v, p = ex v ∧ loc = [vec v 42 3 l.length (l.flatMap (keyV))]) := by
 refine Zbe (i := 0) rfl Zbl fun hl => ?_
 obtain ⟨hl, hby⟩ := hl
 simp only [maxLen] at hl
 have hby : l.length * 32 ≤ 140737488355328 := hby
 refine Zb7 Tryz.func62 rfl Tryz.ntmps62 rfl fun w0 F0 out => ?_
 (repeat' (first | refine Za8 ?_ | refine Za1 ?_ | refine Za6 ?_ | (apply Za9; (first | exact Za3 rfl | exact Za4 rfl); exact rfl) | refine Zag ?_ | refine Zaq ?_ | (apply Zaj; exact rfl; first | (apply Zcj; ((refine WO_append_row (k := 0) (l0 := []) rfl rfl rfl rfl (by exact Src_isl rfl) rfl ?_)); intro _) | (apply g_binE; refine WO_isnil rfl rfl rfl ?_; intro _ _) | (apply Zcb; (refine WO_bslice0 rfl ?_); intro _)) | (refine Zac rfl (fun hb => ?_) (fun hb => ?_) <;> (repeat (fail)) <;> (try (exfalso; fail)))))
 · rename_i hnil
   obtain rfl := hnil hb
   apply retP_leads
   · exact Leads_nilv 42 3 Leads.refl
   · exact ⟨.inr rfl, ret1 rfl (.tmp rfl) (List.Sublist.refl _) ⟨_, rfl, rfl⟩⟩
 · refine ⟨.inr rfl, ret1 rfl (.tmp rfl) (List.Sublist.refl _) ⟨_, rfl, ?_⟩⟩
   simp
end Go.Proofs.YthldagplhklbnaaGreatDoor
namespace Go.Fr
open Go.RowKit Go.Kx
def refP (f0 f3 : List UInt8 → Option Int) (kind : Int) (s : List UInt8) (n : Int) : Int := if kind = 2 then (f0 s).getD 0 else if kind = 5 then (f3 s).getD 0 else n
def refPok (f0 f3 : List UInt8 → Option Int) (kind : Int) (s : List UInt8) : Bool := if kind = 2 then (f0 s).isSome else if kind = 5 then (f3 s).isSome else true
namespace Ex
mutual
def resP (f0 f3 : List UInt8 → Option Int) : Ex → Ex
 | mk k s n d l => mk k s (refP f0 f3 k s n) d (resPs f0 f3 l)
def resPs (f0 f3 : List UInt8 → Option Int) : List Ex → List Ex
 | [] => []
 | x :: xs => resP f0 f3 x :: resPs f0 f3 xs
end
mutual
def okP (f0 f3 : List UInt8 → Option Int) : Ex → Bool
 | mk k s _ _ l => refPok f0 f3 k s && okPs f0 f3 l
def okPs (f0 f3 : List UInt8 → Option Int) : List Ex → Bool
 | [] => true
 | x :: xs => okP f0 f3 x && okPs f0 f3 xs
end
theorem resPs_map (f0 f3 : List UInt8 → Option Int) : ∀ l : List Ex, resPs f0 f3 l = l.map (resP f0 f3)
 | [] => rfl
 | x :: xs => by simp [resPs, resPs_map f0 f3 xs]
theorem okPs_all (f0 f3 : List UInt8 → Option Int) : ∀ l : List Ex, okPs f0 f3 l = l.all (okP f0 f3)
 | [] => rfl
 | x :: xs => by simp [okPs, okPs_all f0 f3 xs]
theorem resP_l (f0 f3 : List UInt8 → Option Int) (x : Ex) : x.resP f0 f3 = mk x.kind x.name (refP f0 f3 x.kind x.name x.n) x.d (x.l.map (resP f0 f3)) := by cases x; simp [resP, resPs_map, kind, name, n, d, l]
theorem okP_l (f0 f3 : List UInt8 → Option Int) (x : Ex) : x.okP f0 f3 = (refPok f0 f3 x.kind x.name && x.l.all (okP f0 f3)) := by cases x; simp [okP, okPs_all, kind, name, l]
def lookF (l : List (List UInt8)) (s : List UInt8) : Option Int := if s ∈ l then some (indexF l s) else none
theorem lookF_some (l : List (List UInt8)) (s : List UInt8) : (lookF l s).isSome = decide (0 ≤ indexF l s) := by
 unfold lookF
 by_cases h : s ∈ l
 · rw [if_pos h, decide_eq_true ((indexF_nonneg l s).2 h)]; rfl
 · rw [if_neg h, decide_eq_false (fun e => h ((indexF_nonneg l s).1 e))]; rfl
theorem lookF_get (l : List (List UInt8)) (s : List UInt8) (h : 0 ≤ indexF l s) : (lookF l s).getD 0 = indexF l s := by
 unfold lookF; rw [if_pos ((indexF_nonneg l s).1 h)]; rfl
theorem refPok_eq (l0 l3 : List (List UInt8)) (k : Int) (s : List UInt8) : refPok (lookF l0) (lookF l3) k s = refOk l0 l3 k s := by
 unfold refPok refOk; rw [lookF_some, lookF_some]
theorem refP_eq (l0 l3 : List (List UInt8)) (k : Int) (s : List UInt8) (n : Int) (h : refOk l0 l3 k s = true) : refP (lookF l0) (lookF l3) k s n = refN l0 l3 k s n := by
 unfold refOk at h
 unfold refP refN
 split
 · rename_i h1
   rw [if_pos h1] at h
   exact lookF_get _ _ (of_decide_eq_true h)
 · rename_i h1
   rw [if_neg h1] at h
   split
   · rename_i h2
     rw [if_pos h2] at h
     exact lookF_get _ _ (of_decide_eq_true h)
   · rfl
mutual
theorem okP_eq (l0 l3 : List (List UInt8)) : ∀ x : Ex, x.okP (lookF l0) (lookF l3) = x.ok l0 l3
 | mk k s n d l => by simp only [okP, ok, refPok_eq, okPs_eq l0 l3 l]
theorem okPs_eq (l0 l3 : List (List UInt8)) : ∀ x : List Ex, okPs (lookF l0) (lookF l3) x = oks l0 l3 x
 | [] => rfl
 | x :: xs => by simp only [okPs, oks, okP_eq l0 l3 x, okPs_eq l0 l3 xs]
end
mutual
theorem resP_eq (l0 l3 : List (List UInt8)) : ∀ x : Ex, x.ok l0 l3 = true → x.resP (lookF l0) (lookF l3) = x.res l0 l3
 | mk k s n d l, h => by
   simp only [ok, Bool.and_eq_true] at h
   simp only [resP, res, refP_eq l0 l3 k s n h.1, resPs_eq l0 l3 l h.2]
theorem resPs_eq (l0 l3 : List (List UInt8)) : ∀ x : List Ex, oks l0 l3 x = true → resPs (lookF l0) (lookF l3) x = ress l0 l3 x
 | [], _ => rfl
 | x :: xs, h => by
   simp only [oks, Bool.and_eq_true] at h
   simp only [resPs, ress, resP_eq l0 l3 x h.1, resPs_eq l0 l3 xs h.2]
end
end Ex
end Go.Fr
namespace Go.Proofs.YthldagplhklbnaaGreatDoor
open Go Go.RowKit Go.Kx Go.Fr
set_option maxRecDepth 100000 in
theorem find_any (m : List (List UInt8 × SP)) (s : List UInt8) (o : Option Int) (b : Nat) (lost : Bool) (hm : mlook m s = o.map (exI .i64)) : FnC Tryz.prog 57 [fmap m, exT s, ex (.pointer (some ⟨b, 0, none⟩))] [row b 4 1 [exB lost]] (fun p loc => p = exI .i64 (o.getD 0) ∧ loc = [row b 4 1 [exB (lost || o.isNone)]]) := by
 refine Zb7 Tryz.func57 rfl Tryz.ntmps57 rfl fun w0 F0 out => ?_
 cases o with
 | none =>
   cases lost
   · (repeat' (first | (apply Za9; (apply Zc4; exact WT_lookf0 (k := s) rfl rfl hm rfl rfl rfl); exact rfl) | refine Za8 ?_ | refine Za1 ?_ | refine Za6 ?_ | (apply Za9; (first | exact Za3 rfl | exact Za4 rfl | exact Zas (b := false) rfl (fun e => by cases e) (fun _ => rfl) | exact Zb5 rfl rfl | (apply Za7; exact Zab (k := 0) rfl rfl rfl rfl)); exact rfl) | (apply Zbt; exact rfl; exact rfl; exact rfl; (first | exact Za3 rfl | (apply g_un; exact Zbg rfl)); exact rfl) | refine Zaq ?_ | (apply Zaj; exact rfl; (apply Zav; refine Zal (k := 0) (l0 := []) rfl rfl rfl ?_))))
     all_goals exact ⟨.inr rfl, ret1 rfl (.tmp rfl) (List.Sublist.refl _) ⟨rfl, rfl⟩⟩
   · (repeat' (first | (apply Za9; (apply Zc4; exact WT_lookf0 (k := s) rfl rfl hm rfl rfl rfl); exact rfl) | refine Za8 ?_ | refine Za1 ?_ | refine Za6 ?_ | (apply Za9; (first | exact Za3 rfl | exact Za4 rfl | exact Zas (b := true) rfl (fun _ => rfl) (fun e => by cases e) | exact Zb5 rfl rfl | (apply Za7; exact Zab (k := 0) rfl rfl rfl rfl)); exact rfl) | (refine Zbq rfl rfl rfl rfl rfl ?_) | refine Zaq ?_ | (apply Zaj; exact rfl; (apply Zav; refine Zal (k := 0) (l0 := []) rfl rfl rfl ?_))))
     all_goals exact ⟨.inr rfl, ret1 rfl (.tmp rfl) (List.Sublist.refl _) ⟨rfl, rfl⟩⟩
 | some n =>
   cases lost
   · (repeat' (first | (apply Za9; (apply Zc4; exact WT_lookf (k := s) rfl rfl hm rfl rfl rfl); exact rfl) | refine Za8 ?_ | refine Za1 ?_ | refine Za6 ?_ | (apply Za9; (first | exact Za3 rfl | exact Za4 rfl | exact Zas (b := false) rfl (fun e => by cases e) (fun _ => rfl) | exact Zb5 rfl rfl | (apply Za7; exact Zab (k := 0) rfl rfl rfl rfl)); exact rfl) | (apply Zbt; exact rfl; exact rfl; exact rfl; (first | exact Za3 rfl | (apply g_un; exact Zbg rfl)); exact rfl) | refine Zaq ?_ | (apply Zaj; exact rfl; (apply Zav; refine Zal (k := 0) (l0 := []) rfl rfl rfl ?_))))
     all_goals exact ⟨.inr rfl, ret1 rfl (.tmp rfl) (List.Sublist.refl _) ⟨rfl, rfl⟩⟩
   · (repeat' (first | (apply Za9; (apply Zc4; exact WT_lookf (k := s) rfl rfl hm rfl rfl rfl); exact rfl) | refine Za8 ?_ | refine Za1 ?_ | refine Za6 ?_ | (apply Za9; (first | exact Za3 rfl | exact Za4 rfl | exact Zas (b := true) rfl (fun _ => rfl) (fun e => by cases e) | exact Zb5 rfl rfl | (apply Za7; exact Zab (k := 0) rfl rfl rfl rfl)); exact rfl) | (refine Zbq rfl rfl rfl rfl rfl ?_) | refine Zaq ?_ | (apply Zaj; exact rfl; (apply Zav; refine Zal (k := 0) (l0 := []) rfl rfl rfl ?_))))
     all_goals exact ⟨.inr rfl, ret1 rfl (.tmp rfl) (List.Sublist.refl _) ⟨rfl, rfl⟩⟩
theorem cut_hereB {α : Type} {C : Cx} {I : α → Env × List Ent} {ok : α → Prop} {Q : Post} {env : Env} {loc : List Ent} {id : Nat} (z : α) (hz : ok z) (hl : Leads C env loc (I z).1 (I z).2) : inBlockP id (cutP C I ok Q) .normal env loc := ⟨z, hz, hl⟩
abbrev FIND (bl : Nat) : Value := .func (.func 57) #[] #[.pointer (some ⟨bl, 0, none⟩)]
abbrev EXPR (bf bc br be : Nat) : Value := .func (.func 58) #[] #[.pointer (some ⟨bf, 0, none⟩), .pointer (some ⟨bc, 0, none⟩), .pointer (some ⟨br, 0, none⟩), .pointer (some ⟨be, 0, none⟩)]
set_option maxHeartbeats 1000000 in
set_option maxRecDepth 100000 in
theorem nexpr_any (m0 m3 : List (List UInt8 × SP)) (f0 f3 : List UInt8 → Option Int) (h0 : ∀ s, mlook m0 s = (f0 s).map (exI .i64)) (h3 : ∀ s, mlook m3 s = (f3 s).map (exI .i64)) (bl bf bc br be : Nat) : ∀ (k : Nat) (x : Ex) (lost : Bool), FnC Tryz.prog 58 [agg (exV k x), fpx bf [ex (FIND bl)], fpx bc [fmap m0], fpx br [fmap m3], fpx be [ex (EXPR bf bc br be)]] [row bl 4 1 [exB lost]] (fun p loc => p = agg (exV k (x.resP f0 f3)) ∧ loc = [row bl 4 1 [exB (lost || !x.okP f0 f3)]]) := by
 intro k
 induction k with
 | zero => intro x lost; exact Zbe (i := 0) rfl Says_ex0 fun h => h.elim
 | succ k ih =>
   intro x lost
   refine Zbe (i := 0) rfl (Zca (i := 4) (p := isl (eEx k) x.l) rfl Zbl) fun hlen => ?_
   rw [Ex.resP_l, Ex.okP_l]
   show FnC Tryz.prog 58 [agg [exI .i64 x.kind, exT x.name, exI .i64 x.n, exI .i64 x.d, isl (eEx k) x.l], fpx bf [ex (FIND bl)], fpx bc [fmap m0], fpx br [fmap m3], fpx be [ex (EXPR bf bc br be)]] [row bl 4 1 [exB lost]] (fun p loc => p = agg [exI .i64 x.kind, exT x.name, exI .i64 (refP f0 f3 x.kind x.name x.n), exI .i64 x.d, isl (eEx k) (x.l.map (Ex.resP f0 f3))] ∧ loc = [row bl 4 1 [exB (lost || !(refPok f0 f3 x.kind x.name && x.l.all (Ex.okP f0 f3)))]])
   obtain ⟨hlen, hby⟩ := hlen
   simp only [maxLen] at hlen
   have hby : x.l.length * 64 ≤ 140737488355328 := hby
   have hcl : ∀ (m : Nat) (h : m < x.l.length) (lo : Bool), FnC Tryz.prog 58 [agg (exV k x.l[m]), fpx bf [ex (FIND bl)], fpx bc [fmap m0], fpx br [fmap m3], fpx be [ex (EXPR bf bc br be)]] [row bl 4 1 [exB lo]] (fun p loc => p = agg (exV k (x.l[m].resP f0 f3)) ∧ loc = [row bl 4 1 [exB (lo || !x.l[m].okP f0 f3)]]) := fun m h lo => ih _ _
   clear ih
   refine Zb7 Tryz.func58 rfl Tryz.ntmps58 rfl fun w0 F0 out => ?_
   (repeat' (first | (apply cuts_at 1; refine Stop.out ?_) | refine Za8 ?_ | refine Za1 ?_ | refine Za6 ?_ | (apply Zaj; exact rfl; first | (apply Zc9; refine Zbz rfl ?_; intro _) | (apply Zbi; refine Zba ?_; intro _))))
   rename_i b5 b6
   refine ⟨WP_cut (fun _ : Unit => ([(1, fpx bf [ex (FIND bl)]), (2, fpx bc [fmap m0]), (3, fpx br [fmap m3]), (4, fpx be [ex (EXPR bf bc br be)]), (5, ex (.pointer (some ⟨b5, 0, none⟩))), (6, ex (.pointer (some ⟨b6, 0, none⟩)))], [row bl 4 1 [exB (lost || !refPok f0 f3 x.kind x.name)], row b6 46 5 [ex (.int .i64 0), ex (.string .empty), ex (.int .i64 0), ex (.int .i64 0), ex (.slice none 0 0)], row b5 46 5 [exI .i64 x.kind, exT x.name, exI .i64 (refP f0 f3 x.kind x.name x.n), exI .i64 x.d, isl (eEx k) x.l]])) (fun _ => True) ?_ fun _ _ => ?_⟩
   · by_cases hk2 : x.kind = 2
     · have hfnd := find_any m0 x.name (f0 x.name) bl lost (h0 _)
       (repeat' (first | refine Za8 ?_ | refine Za1 ?_ | refine Za6 ?_ | (apply Za9; (first | exact Za4 rfl | (apply Za7; first | exact Zcf rfl rfl | exact Zab (k := 1) rfl rfl rfl rfl) | (apply Zat; exact Zaf rfl rfl rfl) | (apply Zah; exact Zcd rfl rfl)); exact rfl) | refine Zaa ?_ | (apply Zaj; exact rfl; first | (apply Zao; (refine WO_callvG (vs := [.pointer (some ⟨bl, 0, none⟩)]) (caps := [ex (.pointer (some ⟨bl, 0, none⟩))]) (args := [_, _]) rfl (.ex .nil) (.one 2 rfl .nil) Tryz.func57 rfl hfnd rfl ?_; rintro _ _ ⟨rfl, rfl⟩)) | (apply Zav; refine Zal (k := 2) (l0 := []) rfl rfl rfl ?_)) | (refine Zac rfl (fun hb => ?_) (fun hb => ?_) <;> (repeat (first | replace hb := Zam hb | replace hb := Zan hb)) <;> (try (exfalso; omega)))))
       all_goals (try (exfalso; omega))
       all_goals (refine cut_hereB () trivial ?_)
       have e1 : refPok f0 f3 x.kind x.name = (f0 x.name).isSome := by unfold refPok; rw [if_pos hk2]
       have e2 : refP f0 f3 x.kind x.name x.n = (f0 x.name).getD 0 := by unfold refP; rw [if_pos hk2]
       have e3 : (!(f0 x.name).isSome) = (f0 x.name).isNone := by cases f0 x.name <;> rfl
       rw [e1, e2, e3]
       exact Zae (by repeat (first | exact Zai | refine Zad rfl ?_)) (List.Sublist.refl _)
     · by_cases hk5 : x.kind = 5
       · have hfnd := find_any m3 x.name (f3 x.name) bl lost (h3 _)
         (repeat' (first | refine Za8 ?_ | refine Za1 ?_ | refine Za6 ?_ | (apply Za9; (first | exact Za4 rfl | (apply Za7; first | exact Zcf rfl rfl | exact Zab (k := 1) rfl rfl rfl rfl) | (apply Zat; exact Zaf rfl rfl rfl) | (apply Zah; exact Zcd rfl rfl)); exact rfl) | refine Zaa ?_ | (apply Zaj; exact rfl; first | (apply Zao; (refine WO_callvG (vs := [.pointer (some ⟨bl, 0, none⟩)]) (caps := [ex (.pointer (some ⟨bl, 0, none⟩))]) (args := [_, _]) rfl (.ex .nil) (.one 2 rfl .nil) Tryz.func57 rfl hfnd rfl ?_; rintro _ _ ⟨rfl, rfl⟩)) | (apply Zav; refine Zal (k := 2) (l0 := []) rfl rfl rfl ?_)) | (refine Zac rfl (fun hb => ?_) (fun hb => ?_) <;> (repeat (first | replace hb := Zam hb | replace hb := Zan hb)) <;> (try (exfalso; omega)))))
         all_goals (try (exfalso; omega))
         all_goals (refine cut_hereB () trivial ?_)
         have e1 : refPok f0 f3 x.kind x.name = (f3 x.name).isSome := by unfold refPok; rw [if_neg hk2, if_pos hk5]
         have e2 : refP f0 f3 x.kind x.name x.n = (f3 x.name).getD 0 := by unfold refP; rw [if_neg hk2, if_pos hk5]
         have e3 : (!(f3 x.name).isSome) = (f3 x.name).isNone := by cases f3 x.name <;> rfl
         rw [e1, e2, e3]
         exact Zae (by repeat (first | exact Zai | refine Zad rfl ?_)) (List.Sublist.refl _)
       · (repeat' (first | refine Za8 ?_ | refine Za1 ?_ | refine Za6 ?_ | (apply Za9; (first | exact Za4 rfl | (apply Za7; exact Zab (k := 1) rfl rfl rfl rfl) | (apply Zat; exact Zaf rfl rfl rfl) | (apply Zah; exact Zcd rfl rfl)); exact rfl) | refine Zaa ?_ | refine Zag ?_ | (refine Zac rfl (fun hb => ?_) (fun hb => ?_) <;> (repeat (first | replace hb := Zam hb | replace hb := Zan hb)) <;> (try (exfalso; omega)))))
         all_goals (try (exfalso; omega))
         all_goals (refine cut_hereB () trivial ?_)
         have e1 : refPok f0 f3 x.kind x.name = true := by unfold refPok; rw [if_neg hk2, if_neg hk5]
         have e2 : refP f0 f3 x.kind x.name x.n = x.n := by unfold refP; rw [if_neg hk2, if_neg hk5]
         rw [e1, e2, Bool.not_true, Bool.or_false]
         refine Leads.trans (Leads_perm (List.Perm.trans (List.Perm.cons _ (List.Perm.swap _ _ _)) (List.Perm.swap _ _ _))) (Zae (by repeat (first | exact Zai | refine Zad rfl ?_)) (List.Sublist.refl _))
   generalize refPok f0 f3 x.kind x.name = ok0
   generalize refP f0 f3 x.kind x.name x.n = n0
   (repeat' (first | (apply at_store; refine WPL_vsl (k := 0) rfl ?_; intro _ _ hv; subst hv) | refine Za8 ?_ | refine Za1 ?_ | refine Za6 ?_ | (apply Za9; (first | exact Za3 rfl | (apply Za7; first | exact Zab (k := 2) rfl rfl rfl rfl | exact Zab (k := 3) rfl rfl rfl rfl) | (apply Zat; exact Zaf rfl rfl rfl) | (apply Zax; exact WT_lenv rfl rfl)); exact rfl) | refine Zaa ?_ | (apply Zaj; exact rfl; first | (apply Zao; (refine Zaw Tryz.func59 rfl (cloneExpr_own _ _) rfl ?_; rintro _ _ ⟨v, rfl, rfl⟩)) | (apply Zav; refine Zal (k := 3) (l0 := []) rfl rfl rfl ?_))))
   rename_i oa c
   refine Zbv (fun s : Nat => ([(1, fpx bf [ex (FIND bl)]), (2, fpx bc [fmap m0]), (3, fpx br [fmap m3]), (4, fpx be [ex (EXPR bf bc br be)]), (5, ex (.pointer (some ⟨b5, 0, none⟩))), (6, ex (.pointer (some ⟨b6, 0, none⟩))), (32, exI .i64 (x.l.length : Int)), (33, exI .i64 (s : Int))], vec (.slice oa x.l.length c) 46 5 x.l.length (((x.l.take s).map (Ex.resP f0 f3) ++ x.l.drop s).flatMap (exV k)) :: row bl 4 1 [exB (lost || !(ok0 && (x.l.take s).all (Ex.okP f0 f3)))] :: row b6 46 5 [ex (.int .i64 0), ex (.string .empty), ex (.int .i64 0), ex (.int .i64 0), ex (.slice none 0 0)] :: row b5 46 5 [exI .i64 x.kind, exT x.name, exI .i64 n0, exI .i64 x.d, ex (.slice oa x.l.length c)] :: [])) (fun s => s ≤ x.l.length) (fun s => x.l.length - s) 0 ?_ (Nat.zero_le _) fun i hi => ?_
   · simp only [List.take_zero, List.map_nil, List.drop_zero, List.nil_append, List.all_nil, Bool.and_true]
     exact Zae (by repeat (first | exact Zai | refine Zad rfl ?_)) (List.Sublist.refl _)
   by_cases hlt : i < x.l.length
   · have eL : ((x.l.take (i + 1)).map (Ex.resP f0 f3) ++ x.l.drop (i + 1)) = ((x.l.take i).map (Ex.resP f0 f3) ++ x.l.drop i).set i (x.l[i].resP f0 f3) := by
       have hm : ((x.l.take i).map (Ex.resP f0 f3)).length = i := by simp; omega
       rw [List.take_succ_eq_append_getElem hlt, List.map_append, List.append_assoc, List.drop_eq_getElem_cons hlt, List.set_append_right _ _ (by omega), hm, Nat.sub_self]
       rfl
     have hLl : ((x.l.take i).map (Ex.resP f0 f3) ++ x.l.drop i).length = x.l.length := by simp; omega
     have hLi : ∀ (h : i < ((x.l.take i).map (Ex.resP f0 f3) ++ x.l.drop i).length), ((x.l.take i).map (Ex.resP f0 f3) ++ x.l.drop i)[i] = x.l[i] := fun h => by
       have hm : ((x.l.take i).map (Ex.resP f0 f3)).length = i := by simp; omega
       rw [List.getElem_append_right (by omega)]
       simp only [hm, Nat.sub_self]
       simp
     have eA : (lost || !(ok0 && (x.l.take (i + 1)).all (Ex.okP f0 f3))) = ((lost || !(ok0 && (x.l.take i).all (Ex.okP f0 f3))) || !x.l[i].okP f0 f3) := by
       rw [List.take_succ_eq_append_getElem hlt, List.all_append]
       simp only [List.all_cons, List.all_nil, Bool.and_true]
       cases lost <;> cases ok0 <;> cases (x.l.take i).all (Ex.okP f0 f3) <;> rfl
     generalize ((x.l.take i).map (Ex.resP f0 f3) ++ x.l.drop i) = L at eL hLl hLi ⊢
     generalize (lost || !(ok0 && (x.l.take i).all (Ex.okP f0 f3))) = lo at eA ⊢
     have hiL : i < L.length := by omega
     have hcall := hcl i hlt lo
     rw [← hLi hiL] at hcall eL eA
     refine WP_vec3 (k := 0) rfl (by omega) fun bL c2 hv hnc hcm => ?_
     cases hv
     (repeat' (first | (apply Zbh 10; refine Stop.out ?_) | refine Za8 ?_ | refine Za1 ?_ | refine Za6 ?_ | (apply Za9; (first | exact Za3 rfl | exact Za4 rfl | (apply Zah; exact Zau rfl rfl)); exact rfl) | refine Zaa ?_ | refine Zag ?_ | (refine Zac rfl (fun hb => ?_) (fun hb => ?_) <;> (repeat (first | replace hb := Zam hb | replace hb := Zan hb)) <;> (try (exfalso; omega)))))
     constructor
     refine WP_cut1 (fun _ : Unit => ([(1, fpx bf [ex (FIND bl)]), (2, fpx bc [fmap m0]), (3, fpx br [fmap m3]), (4, fpx be [ex (EXPR bf bc br be)]), (5, ex (.pointer (some ⟨b5, 0, none⟩))), (6, ex (.pointer (some ⟨b6, 0, none⟩))), (32, exI .i64 (x.l.length : Int)), (33, exI .i64 (i : Int))], [row bl 4 1 [exB (lo || !L[i].okP f0 f3)], row bL 46 (c * 5) ((L.set i (L[i].resP f0 f3)).flatMap (exV k)), row b6 46 5 [ex (.int .i64 0), ex (.string .empty), ex (.int .i64 0), ex (.int .i64 0), ex (.slice none 0 0)], row b5 46 5 [exI .i64 x.kind, exT x.name, exI .i64 n0, exI .i64 x.d, ex (.slice (some ⟨bL, 0, none⟩) x.l.length c)]])) (fun _ => True) ?_ fun _ _ => ?_
     · skip
       (refine Zbx 9 rfl ?_)
       (apply Za2 0 rfl (by decide +kernel) rfl (by repeat (first | exact Za5)) Za0; (first | (apply Zat; first | exact Zaf rfl rfl rfl)); exact rfl)
       (apply Za2 2 rfl (by decide +kernel) rfl (by repeat (first | exact Za5)) Za0; (first | exact Za3 rfl); exact rfl)
       (apply Zb0 3 rfl (by decide +kernel) rfl (by decide +kernel) (by repeat (first | exact Za5)) Za0; (first | (apply Za7; first | exact Zcf rfl rfl)); exact rfl)
       (apply Za2 4 rfl (by decide +kernel) rfl (by repeat (first | exact Za5)) Za0; (first | (apply Zat; first | exact Zaf rfl rfl rfl)); exact rfl)
       (apply Za2 6 rfl (by decide +kernel) rfl (by repeat (first | exact Za5)) Za0; (first | exact Za3 rfl); exact rfl)
       (refine Zcg (H1 := fun _ => True) (H2 := fun _ => True) 1 5 (by decide +kernel) rfl Za0 (fun _ _ _ => trivial) rfl Za0 (fun _ _ _ => trivial) ?_ ?_)
       ·
         ((apply WO_t (H := fun _ => True); (first | (apply Za7; first | exact Zab (k := 3) rfl rfl rfl rfl)); exact rfl))
         (refine Zap (H' := fun _ => True) 5 (by decide +kernel) rfl Za0 (fun _ _ _ => trivial) ?_)
         ((apply WO_t (H := fun _ => True); (first | (apply Za7; first | exact Zab (k := 3) rfl rfl rfl rfl)); exact rfl))
         (apply Za2 7 rfl (by decide +kernel) rfl (by repeat (first | exact Za5)) Za0; (first | (apply Zak; first | exact Zc0 rfl rfl rfl)); exact rfl)
         (apply Zb0 8 rfl (by decide +kernel) rfl (by decide +kernel) (by repeat (exact Za5)) Za0; ((apply Za7; exact WT_loadE (k := 0) rfl rfl rfl)); exact rfl)
         (refine Zap (H' := feet []) 9 (by decide +kernel) rfl Za0 (fun h => absurd h (by decide)) ?_)
         ((apply Zao; (refine WO_callvG (vs := [.pointer (some ⟨bf, 0, none⟩), .pointer (some ⟨bc, 0, none⟩), .pointer (some ⟨br, 0, none⟩), .pointer (some ⟨be, 0, none⟩)]) (caps := [fpx bf [ex (FIND bl)], fpx bc [fmap m0], fpx br [fmap m3], fpx be [ex (EXPR bf bc br be)]]) (args := [_]) rfl (.slot 1 rfl (fun _ _ _ h => h.1) (.slot 2 rfl (fun _ _ _ h => h.1) (.slot 3 rfl (fun _ _ _ h => h.1) (.slot 4 rfl (fun _ _ _ h => h.1) .nil)))) (.one 1 rfl .nil) Tryz.func58 rfl hcall rfl ?_; rintro _ _ ⟨rfl, rfl⟩)))
         (refine Zap (H' := fun _ => True) 10 (by decide +kernel) rfl Za0 (fun _ _ _ => trivial) ?_)
         ((apply WO_t (H := fun _ => True); (first | (apply Zak; first | exact Zc0 rfl rfl rfl)); exact rfl))
         (refine Zap (H' := feet []) 11 (by decide +kernel) rfl Za0 (fun h => absurd h (by decide)) ?_)
         (first | (apply Zav; first | refine WO_storeE (k := 1) (l0 := []) rfl rfl rfl ?_))
         refine Zb9 (by decide +kernel) ?_
         exact Zbp () trivial (Zae (by repeat (first | exact Zai | refine Zad rfl ?_)) (List.Sublist.refl _))
       ·
         ((apply WO_t (H := fun _ => True); (first | (apply Za7; first | exact Zab (k := 3) rfl rfl rfl rfl)); exact rfl))
         (apply Za2 7 rfl (by decide +kernel) rfl (by repeat (first | exact Za5)) Za0; (first | (apply Zak; first | exact Zc0 rfl rfl rfl)); exact rfl)
         (apply Zb0 8 rfl (by decide +kernel) rfl (by decide +kernel) (by repeat (exact Za5)) Za0; ((apply Za7; exact WT_loadE (k := 0) rfl rfl rfl)); exact rfl)
         (refine Zcg (H1 := fun _ => True) (H2 := feet []) 1 9 (by decide +kernel) rfl Za0 (fun _ _ _ => trivial) rfl Za0 (fun h => absurd h (by decide)) ?_ ?_)
         ·
           ((apply WO_t (H := fun _ => True); (first | (apply Za7; first | exact Zab (k := 3) rfl rfl rfl rfl)); exact rfl))
           (refine Zap (H' := feet []) 9 (by decide +kernel) rfl Za0 (fun h => absurd h (by decide)) ?_)
           ((apply Zao; (refine WO_callvG (vs := [.pointer (some ⟨bf, 0, none⟩), .pointer (some ⟨bc, 0, none⟩), .pointer (some ⟨br, 0, none⟩), .pointer (some ⟨be, 0, none⟩)]) (caps := [fpx bf [ex (FIND bl)], fpx bc [fmap m0], fpx br [fmap m3], fpx be [ex (EXPR bf bc br be)]]) (args := [_]) rfl (.slot 1 rfl (fun _ _ _ h => h.1) (.slot 2 rfl (fun _ _ _ h => h.1) (.slot 3 rfl (fun _ _ _ h => h.1) (.slot 4 rfl (fun _ _ _ h => h.1) .nil)))) (.one 1 rfl .nil) Tryz.func58 rfl hcall rfl ?_; rintro _ _ ⟨rfl, rfl⟩)))
           (refine Zap (H' := fun _ => True) 10 (by decide +kernel) rfl Za0 (fun _ _ _ => trivial) ?_)
           ((apply WO_t (H := fun _ => True); (first | (apply Zak; first | exact Zc0 rfl rfl rfl)); exact rfl))
           (refine Zap (H' := feet []) 11 (by decide +kernel) rfl Za0 (fun h => absurd h (by decide)) ?_)
           (first | (apply Zav; first | refine WO_storeE (k := 1) (l0 := []) rfl rfl rfl ?_))
           refine Zb9 (by decide +kernel) ?_
           exact Zbp () trivial (Zae (by repeat (first | exact Zai | refine Zad rfl ?_)) (List.Sublist.refl _))
         ·
           ((apply Zao; (refine WO_callvG (vs := [.pointer (some ⟨bf, 0, none⟩), .pointer (some ⟨bc, 0, none⟩), .pointer (some ⟨br, 0, none⟩), .pointer (some ⟨be, 0, none⟩)]) (caps := [fpx bf [ex (FIND bl)], fpx bc [fmap m0], fpx br [fmap m3], fpx be [ex (EXPR bf bc br be)]]) (args := [_]) rfl (.slot 1 rfl (fun _ _ _ h => h.1) (.slot 2 rfl (fun _ _ _ h => h.1) (.slot 3 rfl (fun _ _ _ h => h.1) (.slot 4 rfl (fun _ _ _ h => h.1) .nil)))) (.one 1 rfl .nil) Tryz.func58 rfl hcall rfl ?_; rintro _ _ ⟨rfl, rfl⟩)))
           (refine Zap (H' := fun _ => True) 1 (by decide +kernel) rfl Za0 (fun _ _ _ => trivial) ?_)
           ((apply WO_t (H := fun _ => True); (first | (apply Za7; first | exact Zab (k := 3) rfl rfl rfl rfl)); exact rfl))
           (refine Zap (H' := fun _ => True) 10 (by decide +kernel) rfl Za0 (fun _ _ _ => trivial) ?_)
           ((apply WO_t (H := fun _ => True); (first | (apply Zak; first | exact Zc0 rfl rfl rfl)); exact rfl))
           (refine Zap (H' := feet []) 11 (by decide +kernel) rfl Za0 (fun h => absurd h (by decide)) ?_)
           (first | (apply Zav; first | refine WO_storeE (k := 1) (l0 := []) rfl rfl rfl ?_))
           refine Zb9 (by decide +kernel) ?_
           exact Zbp () trivial (Zae (by repeat (first | exact Zai | refine Zad rfl ?_)) (List.Sublist.refl _))
     (repeat' (first | refine Za1 ?_ | refine Za6 ?_ | (apply Za9; (first | exact Za3 rfl | (apply Zah; first | exact Zbf rfl rfl)); exact rfl)))
     refine ⟨i + 1, by omega, by omega, ?_⟩
     rw [eL, eA]
     refine (Leads_perm (List.Perm.swap _ _ _)).trans ?_
     refine Leads_row_vec (k := 0) (sz := 5) (n := x.l.length) (c := c) rfl rfl ?_ (by decide) hcm ?_
     · rw [length_flat (fs := exV k) (s := 5) (fun _ => rfl), List.length_set, hLl]
     · exact Zae (by repeat (first | exact Zai | refine Zad rfl ?_)) (List.Sublist.refl _)
   · have hk9 : i = x.l.length := by omega
     subst hk9
     rw [List.take_length, List.drop_length, List.append_nil]
     (repeat' (first | (apply cut_at 12; refine Stop.out ?_) | refine Za8 ?_ | refine Za1 ?_ | refine Za6 ?_ | (apply Za9; ((apply Zah; exact Zau rfl rfl)); exact rfl) | refine Zbk ?_ | (refine Zac rfl (fun hb => ?_) (fun hb => ?_) <;> (repeat (first | replace hb := Zam hb | replace hb := Zan hb)) <;> (try (exfalso; omega)))))
     all_goals (try (exfalso; omega))
     constructor
     apply Zbn
     · exact Leads_fcell (j := 0) (k := 2) (i := 4) (E := eEx k) (x.l.map (Ex.resP f0 f3)) rfl rfl rfl (by simp) rfl rfl (hby := hby)
     (repeat' (first | refine Za8 ?_ | refine Za1 ?_ | refine Za6 ?_ | (apply Za9; ((apply Za7; exact Zb6 (k := 2) rfl rfl rfl)); exact rfl) | refine Zaq ?_ | (apply Zaj; exact rfl; (apply Zav; refine Zal (k := 1) (l0 := []) rfl rfl rfl ?_))))
     exact ⟨.inr rfl, ret1 rfl (.cella (k := 1) rfl rfl rfl rfl inferInstance rfl) (List.cons_sublist_cons.2 (List.nil_sublist _)) ⟨rfl, rfl⟩⟩
end Go.Proofs.YthldagplhklbnaaGreatDoor
namespace Go.Proofs.YthldagplhklbnaaGreatDoor
open Go Go.RowKit Go.Kx Go.Fr
def imapN (l : List (List UInt8)) : Nat → List (List UInt8 × SP)
 | 0 => []
 | i + 1 => mput (imapN l i) (l.getD i []) (exI .i64 (i : Int))
theorem mlook_mput {κ : Type} [DecidableEq κ] [MK κ] (x y : κ) (p : SP) : ∀ m : List (κ × SP), mlook (mput m x p) y = if y = x then some p else mlook m y
 | [] => by simp only [mput, mlook]
 | (k, q) :: r => by
   unfold mput
   split
   · rename_i h
     subst h
     simp only [mlook]
     split <;> rfl
   · rename_i h
     simp only [mlook, mlook_mput x y p r]
     split
     · rename_i h2
       subst h2
       rw [if_neg (fun e => h e.symm)]
     · rfl
theorem imapN_none (l : List (List UInt8)) (s : List UInt8) : ∀ i, i ≤ l.length → (mlook (imapN l i) s = none ↔ s ∉ l.take i)
 | 0, _ => by simp [imapN, mlook]
 | i + 1, h => by
   have hi : i < l.length := by omega
   rw [imapN, mlook_mput, List.take_succ_eq_append_getElem hi, List.getD_eq_getElem?_getD, List.getElem?_eq_getElem hi]
   simp only [Option.getD_some, List.mem_append, List.mem_singleton, not_or]
   split
   · rename_i e; simp [e]
   · rename_i e; rw [imapN_none l s i (by omega)]; simp [e]
theorem imapN_some (l : List (List UInt8)) (hl : onceF l = true) (s : List UInt8) : ∀ i, i ≤ l.length → s ∈ l.take i → mlook (imapN l i) s = some (exI .i64 (indexF l s))
 | 0, _, hm => by simp at hm
 | i + 1, h, hm => by
   have hi : i < l.length := by omega
   rw [imapN, mlook_mput, List.getD_eq_getElem?_getD, List.getElem?_eq_getElem hi]
   simp only [Option.getD_some]
   split
   · rename_i e
     rw [e, onceF_index.1 hl i hi]
   · rename_i e
     refine imapN_some l hl s i (by omega) ?_
     rw [List.take_succ_eq_append_getElem hi] at hm
     simp only [List.mem_append, List.mem_singleton] at hm
     exact hm.resolve_right e
theorem imapN_int (l : List (List UInt8)) (s : List UInt8) : ∀ i (p : SP), mlook (imapN l i) s = some p → ∃ n : Int, p = exI .i64 n
 | 0, p, h => by simp [imapN, mlook] at h
 | i + 1, p, h => by
   rw [imapN, mlook_mput] at h
   split at h
   · cases h; exact ⟨_, rfl⟩
   · exact imapN_int l s i p h
def newN (l : List (List UInt8)) (i : Nat) : Bool := (List.range i).all fun j => !decide (l.getD j [] ∈ l.take j)
theorem newN_succ (l : List (List UInt8)) (i : Nat) (h : i < l.length) : newN l (i + 1) = (newN l i && !decide (l[i] ∈ l.take i)) := by
 unfold newN
 rw [List.range_succ, List.all_append]
 simp [h]
theorem newN_all (l : List (List UInt8)) : newN l l.length = onceF l := by
 rw [Bool.eq_iff_iff, onceF_iff]
 simp only [newN, List.all_eq_true, List.mem_range, Bool.not_eq_true', decide_eq_false_iff_not]
 constructor
 · intro h i j hi hj he
   apply Classical.byContradiction
   intro hne
   rcases Nat.lt_or_gt_of_ne hne with hlt | hlt
   · refine h j hj ?_
     rw [List.getD_eq_getElem?_getD, List.getElem?_eq_getElem hj, Option.getD_some, ← he]
     exact List.mem_take_iff_getElem.2 ⟨i, by omega, rfl⟩
   · refine h i hi ?_
     rw [List.getD_eq_getElem?_getD, List.getElem?_eq_getElem hi, Option.getD_some, he]
     exact List.mem_take_iff_getElem.2 ⟨j, by omega, rfl⟩
 · intro h j hj hm
   rw [List.getD_eq_getElem?_getD, List.getElem?_eq_getElem hj, Option.getD_some] at hm
   obtain ⟨i, hi, he⟩ := List.mem_take_iff_getElem.1 hm
   have := h i j (by omega) hj he
   omega
set_option maxRecDepth 100000 in
theorem nameOfCrit_any (x : Crit) : FnC Tryz.prog 48 [agg (critV x)] [] (fun p loc => p = exT x.name ∧ loc = []) := by
 refine Zb7 Tryz.func48 rfl Tryz.ntmps48 rfl fun w0 F0 out => ?_
 (repeat' (first | refine Za8 ?_ | refine Za1 ?_ | refine Za6 ?_ | (apply Za9; (first | exact Za4 rfl | (apply Za7; exact Zab (k := 0) rfl rfl rfl rfl) | (apply Zat; exact Zaf rfl rfl rfl)); exact rfl) | refine Zaq ?_ | (apply Zaj; exact rfl; (apply Zc9; refine Zbz rfl ?_; intro _))))
 refine ⟨.inr rfl, ret1 rfl (.tmp rfl) (List.nil_sublist _) ⟨rfl, rfl⟩⟩
set_option maxHeartbeats 1000000 in
set_option maxRecDepth 100000 in
theorem listCrit_any (l : List Crit) (b : Nat) (hl : l.length ≤ 1000) : FnC Tryz.prog 47 [ex (.map (some b)), isl eCrit l, ex (.func (.func 48) #[] #[])] [omap b ([] : List (List UInt8 × SP)), Tab] (fun p loc => p = tup [exB ((l.map (·.name)).all freeF), exB (onceF (l.map (·.name)))] ∧ loc = [omap b (imapN (l.map (·.name)) l.length)]) := by
 refine Zb7 Tryz.func47 rfl Tryz.ntmps47 rfl fun w0 F0 out => ?_
 (repeat' (first | refine Za8 ?_ | refine Za1 ?_ | refine Za6 ?_ | (apply Za9; (first | exact Za3 rfl | exact Za4 rfl | (apply Zax; exact Zb3 rfl rfl)); exact rfl) | refine Zaa ?_))
 refine Zbv (fun i : Nat => ([(0, ex (.map (some b))), (13, isl eCrit l), (14, exI .i64 (l.length : Int)), (15, exI .i64 (i : Int)), (2, ex (.func (.func 48) #[] #[])), (6, exB (((l.take i).map (·.name)).all freeF)), (7, exB (newN (l.map (·.name)) i))], [omap b (imapN (l.map (·.name)) i), Tab])) (fun i => i ≤ l.length) (fun i => l.length - i) 0 ?_ (Nat.zero_le _) fun i hi => ?_
 · exact Zae (by repeat (first | exact Zai | refine Zad rfl ?_)) (List.Sublist.refl _)
 by_cases hlt : i < l.length
 · have hlm : i < (l.map (·.name)).length := by rw [List.length_map]; exact hlt
   have hgm : (l.map (·.name))[i] = l[i].name := List.getElem_map ..
   have eF : ((l.take (i + 1)).map (·.name)).all freeF = (((l.take i).map (·.name)).all freeF && freeF l[i].name) := by
     rw [List.take_succ_eq_append_getElem hlt, List.map_append, List.all_append]; simp
   have eN := newN_succ (l.map (·.name)) i hlm
   rw [hgm] at eN
   have eM : imapN (l.map (·.name)) (i + 1) = mput (imapN (l.map (·.name)) i) l[i].name (exI .i64 (i : Int)) := by
     rw [imapN, List.getD_eq_getElem?_getD, List.getElem?_eq_getElem hlm, hgm]; rfl
   have hno := imapN_none (l.map (·.name)) l[i].name i (by omega)
   generalize ((l.take i).map (·.name)).all freeF = fa at eF ⊢
   generalize newN (l.map (·.name)) i = fb at eN ⊢
   by_cases hk : l[i].name ∈ (l.map (·.name)).take i
   · rw [decide_eq_true hk] at eN
     cases hm : mlook (imapN (l.map (·.name)) i) l[i].name with
     | none => exact absurd (hno.1 hm) (fun h => h hk)
     | some p =>
       obtain ⟨n, rfl⟩ := imapN_int _ _ _ _ hm
       cases fa <;> cases fb
       all_goals ((repeat' (first | (apply Za9; (apply Zc4; exact Zcl (k := l[i].name) (j := 1) rfl rfl rfl hm rfl rfl rfl trivial); exact rfl) | (apply Zaj; exact rfl; apply g_mapup; refine Zbc (k := l[i].name) (j := 1) (.inl rfl) rfl rfl rfl rfl rfl rfl rfl ?_) | refine Za8 ?_ | refine Za1 ?_ | refine Za6 ?_ | (apply Za9; (first | exact Za3 rfl | exact Za4 rfl | exact Zas (b := true) rfl (fun _ => rfl) (fun e => by cases e) | exact Zas (b := false) rfl (fun e => by cases e) (fun _ => rfl) | exact Zb5 rfl rfl | (apply Za7; first | exact Zb2 rfl rfl | exact Zb6 (k := 0) rfl rfl rfl) | (apply Zah; first | exact Zau rfl rfl | exact Zbf rfl rfl) | (apply Zak; exact Zar rfl rfl rfl)); exact rfl) | (refine Zbq rfl rfl rfl rfl rfl ?_) | (apply Zbt; exact rfl; exact rfl; exact rfl; (first | exact Za3 rfl | (apply g_un; exact Zbg rfl)); exact rfl) | refine Zaa ?_ | refine Zag ?_ | (apply Zaj; exact rfl; first | (apply Zao; (refine WO_callv (vs := []) (args := [agg (critV l[i])]) rfl Tryz.func48 rfl (nameOfCrit_any _) rfl ?_; rintro _ _ ⟨rfl, rfl⟩)) | (apply Zbi; refine Zba ?_; intro _) | (apply Zav; refine Zal (k := 0) (l0 := []) rfl rfl rfl ?_)) | (apply Zc8; exact rfl; exact rfl; exact rfl; exact rfl; (apply Zao; (refine Zby (.dup 2 rfl rfl .nil) Tryz.func56 rfl (free_any _) rfl ?_; rintro _ _ ⟨rfl, rfl⟩))) | (refine Zac rfl (fun hb => ?_) (fun hb => ?_) <;> (repeat (first | replace hb := Zam hb | replace hb := Zan hb)) <;> (try (exfalso; omega))))))
       all_goals (try (exfalso; omega))
       all_goals (refine ⟨i + 1, by omega, by omega, ?_⟩; rw [eF, eN, eM]; exact Zbd 1 (by repeat (first | exact Zai | refine Zad rfl ?_)) rfl)
   · rw [decide_eq_false hk] at eN
     have hm := hno.2 hk
     cases fa <;> cases fb
     all_goals ((repeat' (first | (apply Za9; (apply Zc4; exact WT_looko0 (k := l[i].name) (j := 1) rfl rfl rfl hm rfl rfl rfl trivial); exact rfl) | (apply Zaj; exact rfl; apply g_mapup; refine Zbc (k := l[i].name) (j := 1) (.inl rfl) rfl rfl rfl rfl rfl rfl rfl ?_) | refine Za8 ?_ | refine Za1 ?_ | refine Za6 ?_ | (apply Za9; (first | exact Za3 rfl | exact Za4 rfl | exact Zas (b := true) rfl (fun _ => rfl) (fun e => by cases e) | exact Zas (b := false) rfl (fun e => by cases e) (fun _ => rfl) | exact Zb5 rfl rfl | (apply Za7; first | exact Zb2 rfl rfl | exact Zb6 (k := 0) rfl rfl rfl) | (apply Zah; first | exact Zau rfl rfl | exact Zbf rfl rfl) | (apply Zak; exact Zar rfl rfl rfl)); exact rfl) | (refine Zbq rfl rfl rfl rfl rfl ?_) | (apply Zbt; exact rfl; exact rfl; exact rfl; (first | exact Za3 rfl | (apply g_un; exact Zbg rfl)); exact rfl) | refine Zaa ?_ | refine Zag ?_ | (apply Zaj; exact rfl; first | (apply Zao; (refine WO_callv (vs := []) (args := [agg (critV l[i])]) rfl Tryz.func48 rfl (nameOfCrit_any _) rfl ?_; rintro _ _ ⟨rfl, rfl⟩)) | (apply Zbi; refine Zba ?_; intro _) | (apply Zav; refine Zal (k := 0) (l0 := []) rfl rfl rfl ?_)) | (apply Zc8; exact rfl; exact rfl; exact rfl; exact rfl; (apply Zao; (refine Zby (.dup 2 rfl rfl .nil) Tryz.func56 rfl (free_any _) rfl ?_; rintro _ _ ⟨rfl, rfl⟩))) | (refine Zac rfl (fun hb => ?_) (fun hb => ?_) <;> (repeat (first | replace hb := Zam hb | replace hb := Zan hb)) <;> (try (exfalso; omega))))))
     all_goals (try (exfalso; omega))
     all_goals (refine ⟨i + 1, by omega, by omega, ?_⟩; rw [eF, eN, eM]; exact Zbd 1 (by repeat (first | exact Zai | refine Zad rfl ?_)) rfl)
 · have hk9 : i = l.length := by omega
   subst hk9
   have e1 : newN (l.map (·.name)) l.length = onceF (l.map (·.name)) := by rw [← newN_all, List.length_map]
   rw [List.take_length, e1]
   (repeat' (first | refine Za8 ?_ | refine Za1 ?_ | refine Za6 ?_ | (apply Za9; (first | exact Za3 rfl | exact Za4 rfl | (apply Zah; exact Zau rfl rfl)); exact rfl) | refine Zaq ?_ | refine Zbk ?_ | (refine Zac rfl (fun hb => ?_) (fun hb => ?_) <;> (repeat (first | replace hb := Zam hb | replace hb := Zan hb)) <;> (try (exfalso; omega)))))
   all_goals (try (exfalso; omega))
   refine ⟨.inr rfl, ret2 rfl (.tmp rfl) (.tmp rfl) (List.cons_sublist_cons.2 (List.nil_sublist _)) ⟨rfl, rfl⟩⟩
set_option maxRecDepth 100000 in
theorem nameOfItem_any (x : ItemD) : FnC Tryz.prog 51 [agg (itemV x)] [] (fun p loc => p = exT x.name ∧ loc = []) := by
 refine Zb7 Tryz.func51 rfl Tryz.ntmps51 rfl fun w0 F0 out => ?_
 (repeat' (first | refine Za8 ?_ | refine Za1 ?_ | refine Za6 ?_ | (apply Za9; (first | exact Za4 rfl | (apply Za7; exact Zab (k := 0) rfl rfl rfl rfl) | (apply Zat; exact Zaf rfl rfl rfl)); exact rfl) | refine Zaq ?_ | (apply Zaj; exact rfl; (apply Zc9; refine Zbz rfl ?_; intro _))))
 refine ⟨.inr rfl, ret1 rfl (.tmp rfl) (List.nil_sublist _) ⟨rfl, rfl⟩⟩
set_option maxHeartbeats 1000000 in
set_option maxRecDepth 100000 in
theorem listItem_any (l : List ItemD) (b : Nat) (hl : l.length ≤ 1000) : FnC Tryz.prog 49 [ex (.map (some b)), isl eItem l, ex (.func (.func 51) #[] #[])] [omap b ([] : List (List UInt8 × SP)), Tab] (fun p loc => p = tup [exB ((l.map (·.name)).all freeF), exB (onceF (l.map (·.name)))] ∧ loc = [omap b (imapN (l.map (·.name)) l.length)]) := by
 refine Zb7 Tryz.func49 rfl Tryz.ntmps49 rfl fun w0 F0 out => ?_
 (repeat' (first | refine Za8 ?_ | refine Za1 ?_ | refine Za6 ?_ | (apply Za9; (first | exact Za3 rfl | exact Za4 rfl | (apply Zax; exact Zb3 rfl rfl)); exact rfl) | refine Zaa ?_))
 refine Zbv (fun i : Nat => ([(0, ex (.map (some b))), (13, isl eItem l), (14, exI .i64 (l.length : Int)), (15, exI .i64 (i : Int)), (2, ex (.func (.func 51) #[] #[])), (6, exB (((l.take i).map (·.name)).all freeF)), (7, exB (newN (l.map (·.name)) i))], [omap b (imapN (l.map (·.name)) i), Tab])) (fun i => i ≤ l.length) (fun i => l.length - i) 0 ?_ (Nat.zero_le _) fun i hi => ?_
 · exact Zae (by repeat (first | exact Zai | refine Zad rfl ?_)) (List.Sublist.refl _)
 by_cases hlt : i < l.length
 · have hlm : i < (l.map (·.name)).length := by rw [List.length_map]; exact hlt
   have hgm : (l.map (·.name))[i] = l[i].name := List.getElem_map ..
   have eF : ((l.take (i + 1)).map (·.name)).all freeF = (((l.take i).map (·.name)).all freeF && freeF l[i].name) := by
     rw [List.take_succ_eq_append_getElem hlt, List.map_append, List.all_append]; simp
   have eN := newN_succ (l.map (·.name)) i hlm
   rw [hgm] at eN
   have eM : imapN (l.map (·.name)) (i + 1) = mput (imapN (l.map (·.name)) i) l[i].name (exI .i64 (i : Int)) := by
     rw [imapN, List.getD_eq_getElem?_getD, List.getElem?_eq_getElem hlm, hgm]; rfl
   have hno := imapN_none (l.map (·.name)) l[i].name i (by omega)
   generalize ((l.take i).map (·.name)).all freeF = fa at eF ⊢
   generalize newN (l.map (·.name)) i = fb at eN ⊢
   by_cases hk : l[i].name ∈ (l.map (·.name)).take i
   · rw [decide_eq_true hk] at eN
     cases hm : mlook (imapN (l.map (·.name)) i) l[i].name with
     | none => exact absurd (hno.1 hm) (fun h => h hk)
     | some p =>
       obtain ⟨n, rfl⟩ := imapN_int _ _ _ _ hm
       cases fa <;> cases fb
       all_goals ((repeat' (first | (apply Za9; (apply Zc4; exact Zcl (k := l[i].name) (j := 1) rfl rfl rfl hm rfl rfl rfl trivial); exact rfl) | (apply Zaj; exact rfl; apply g_mapup; refine Zbc (k := l[i].name) (j := 1) (.inl rfl) rfl rfl rfl rfl rfl rfl rfl ?_) | refine Za8 ?_ | refine Za1 ?_ | refine Za6 ?_ | (apply Za9; (first | exact Za3 rfl | exact Za4 rfl | exact Zas (b := true) rfl (fun _ => rfl) (fun e => by cases e) | exact Zas (b := false) rfl (fun e => by cases e) (fun _ => rfl) | exact Zb5 rfl rfl | (apply Za7; first | exact Zb2 rfl rfl | exact Zb6 (k := 0) rfl rfl rfl) | (apply Zah; first | exact Zau rfl rfl | exact Zbf rfl rfl) | (apply Zak; exact Zar rfl rfl rfl)); exact rfl) | (refine Zbq rfl rfl rfl rfl rfl ?_) | (apply Zbt; exact rfl; exact rfl; exact rfl; (first | exact Za3 rfl | (apply g_un; exact Zbg rfl)); exact rfl) | refine Zaa ?_ | refine Zag ?_ | (apply Zaj; exact rfl; first | (apply Zao; (refine WO_callv (vs := []) (args := [agg (itemV l[i])]) rfl Tryz.func51 rfl (nameOfItem_any _) rfl ?_; rintro _ _ ⟨rfl, rfl⟩)) | (apply Zbi; refine Zba ?_; intro _) | (apply Zav; refine Zal (k := 0) (l0 := []) rfl rfl rfl ?_)) | (apply Zc8; exact rfl; exact rfl; exact rfl; exact rfl; (apply Zao; (refine Zby (.dup 2 rfl rfl .nil) Tryz.func56 rfl (free_any _) rfl ?_; rintro _ _ ⟨rfl, rfl⟩))) | (refine Zac rfl (fun hb => ?_) (fun hb => ?_) <;> (repeat (first | replace hb := Zam hb | replace hb := Zan hb)) <;> (try (exfalso; omega))))))
       all_goals (try (exfalso; omega))
       all_goals (refine ⟨i + 1, by omega, by omega, ?_⟩; rw [eF, eN, eM]; exact Zbd 1 (by repeat (first | exact Zai | refine Zad rfl ?_)) rfl)
   · rw [decide_eq_false hk] at eN
     have hm := hno.2 hk
     cases fa <;> cases fb
     all_goals ((repeat' (first | (apply Za9; (apply Zc4; exact WT_looko0 (k := l[i].name) (j := 1) rfl rfl rfl hm rfl rfl rfl trivial); exact rfl) | (apply Zaj; exact rfl; apply g_mapup; refine Zbc (k := l[i].name) (j := 1) (.inl rfl) rfl rfl rfl rfl rfl rfl rfl ?_) | refine Za8 ?_ | refine Za1 ?_ | refine Za6 ?_ | (apply Za9; (first | exact Za3 rfl | exact Za4 rfl | exact Zas (b := true) rfl (fun _ => rfl) (fun e => by cases e) | exact Zas (b := false) rfl (fun e => by cases e) (fun _ => rfl) | exact Zb5 rfl rfl | (apply Za7; first | exact Zb2 rfl rfl | exact Zb6 (k := 0) rfl rfl rfl) | (apply Zah; first | exact Zau rfl rfl | exact Zbf rfl rfl) | (apply Zak; exact Zar rfl rfl rfl)); exact rfl) | (refine Zbq rfl rfl rfl rfl rfl ?_) | (apply Zbt; exact rfl; exact rfl; exact rfl; (first | exact Za3 rfl | (apply g_un; exact Zbg rfl)); exact rfl) | refine Zaa ?_ | refine Zag ?_ | (apply Zaj; exact rfl; first | (apply Zao; (refine WO_callv (vs := []) (args := [agg (itemV l[i])]) rfl Tryz.func51 rfl (nameOfItem_any _) rfl ?_; rintro _ _ ⟨rfl, rfl⟩)) | (apply Zbi; refine Zba ?_; intro _) | (apply Zav; refine Zal (k := 0) (l0 := []) rfl rfl rfl ?_)) | (apply Zc8; exact rfl; exact rfl; exact rfl; exact rfl; (apply Zao; (refine Zby (.dup 2 rfl rfl .nil) Tryz.func56 rfl (free_any _) rfl ?_; rintro _ _ ⟨rfl, rfl⟩))) | (refine Zac rfl (fun hb => ?_) (fun hb => ?_) <;> (repeat (first | replace hb := Zam hb | replace hb := Zan hb)) <;> (try (exfalso; omega))))))
     all_goals (try (exfalso; omega))
     all_goals (refine ⟨i + 1, by omega, by omega, ?_⟩; rw [eF, eN, eM]; exact Zbd 1 (by repeat (first | exact Zai | refine Zad rfl ?_)) rfl)
 · have hk9 : i = l.length := by omega
   subst hk9
   have e1 : newN (l.map (·.name)) l.length = onceF (l.map (·.name)) := by rw [← newN_all, List.length_map]
   rw [List.take_length, e1]
   (repeat' (first | refine Za8 ?_ | refine Za1 ?_ | refine Za6 ?_ | (apply Za9; (first | exact Za3 rfl | exact Za4 rfl | (apply Zah; exact Zau rfl rfl)); exact rfl) | refine Zaq ?_ | refine Zbk ?_ | (refine Zac rfl (fun hb => ?_) (fun hb => ?_) <;> (repeat (first | replace hb := Zam hb | replace hb := Zan hb)) <;> (try (exfalso; omega)))))
   all_goals (try (exfalso; omega))
   refine ⟨.inr rfl, ret2 rfl (.tmp rfl) (.tmp rfl) (List.cons_sublist_cons.2 (List.nil_sublist _)) ⟨rfl, rfl⟩⟩
set_option maxRecDepth 100000 in
theorem nameOfTie_any (x : TieD) : FnC Tryz.prog 53 [agg (tieV x)] [] (fun p loc => p = exT x.name ∧ loc = []) := by
 refine Zb7 Tryz.func53 rfl Tryz.ntmps53 rfl fun w0 F0 out => ?_
 (repeat' (first | refine Za8 ?_ | refine Za1 ?_ | refine Za6 ?_ | (apply Za9; (first | exact Za4 rfl | (apply Za7; exact Zab (k := 0) rfl rfl rfl rfl) | (apply Zat; exact Zaf rfl rfl rfl)); exact rfl) | refine Zaq ?_ | (apply Zaj; exact rfl; (apply Zc9; refine Zbz rfl ?_; intro _))))
 refine ⟨.inr rfl, ret1 rfl (.tmp rfl) (List.nil_sublist _) ⟨rfl, rfl⟩⟩
set_option maxHeartbeats 1000000 in
set_option maxRecDepth 100000 in
theorem listTie_any (l : List TieD) (b : Nat) (hl : l.length ≤ 1000) : FnC Tryz.prog 52 [ex (.map (some b)), isl eTie l, ex (.func (.func 53) #[] #[])] [omap b ([] : List (List UInt8 × SP)), Tab] (fun p loc => p = tup [exB ((l.map (·.name)).all freeF), exB (onceF (l.map (·.name)))] ∧ loc = [omap b (imapN (l.map (·.name)) l.length)]) := by
 refine Zb7 Tryz.func52 rfl Tryz.ntmps52 rfl fun w0 F0 out => ?_
 (repeat' (first | refine Za8 ?_ | refine Za1 ?_ | refine Za6 ?_ | (apply Za9; (first | exact Za3 rfl | exact Za4 rfl | (apply Zax; exact Zb3 rfl rfl)); exact rfl) | refine Zaa ?_))
 refine Zbv (fun i : Nat => ([(0, ex (.map (some b))), (13, isl eTie l), (14, exI .i64 (l.length : Int)), (15, exI .i64 (i : Int)), (2, ex (.func (.func 53) #[] #[])), (6, exB (((l.take i).map (·.name)).all freeF)), (7, exB (newN (l.map (·.name)) i))], [omap b (imapN (l.map (·.name)) i), Tab])) (fun i => i ≤ l.length) (fun i => l.length - i) 0 ?_ (Nat.zero_le _) fun i hi => ?_
 · exact Zae (by repeat (first | exact Zai | refine Zad rfl ?_)) (List.Sublist.refl _)
 by_cases hlt : i < l.length
 · have hlm : i < (l.map (·.name)).length := by rw [List.length_map]; exact hlt
   have hgm : (l.map (·.name))[i] = l[i].name := List.getElem_map ..
   have eF : ((l.take (i + 1)).map (·.name)).all freeF = (((l.take i).map (·.name)).all freeF && freeF l[i].name) := by
     rw [List.take_succ_eq_append_getElem hlt, List.map_append, List.all_append]; simp
   have eN := newN_succ (l.map (·.name)) i hlm
   rw [hgm] at eN
   have eM : imapN (l.map (·.name)) (i + 1) = mput (imapN (l.map (·.name)) i) l[i].name (exI .i64 (i : Int)) := by
     rw [imapN, List.getD_eq_getElem?_getD, List.getElem?_eq_getElem hlm, hgm]; rfl
   have hno := imapN_none (l.map (·.name)) l[i].name i (by omega)
   generalize ((l.take i).map (·.name)).all freeF = fa at eF ⊢
   generalize newN (l.map (·.name)) i = fb at eN ⊢
   by_cases hk : l[i].name ∈ (l.map (·.name)).take i
   · rw [decide_eq_true hk] at eN
     cases hm : mlook (imapN (l.map (·.name)) i) l[i].name with
     | none => exact absurd (hno.1 hm) (fun h => h hk)
     | some p =>
       obtain ⟨n, rfl⟩ := imapN_int _ _ _ _ hm
       cases fa <;> cases fb
       all_goals ((repeat' (first | (apply Za9; (apply Zc4; exact Zcl (k := l[i].name) (j := 1) rfl rfl rfl hm rfl rfl rfl trivial); exact rfl) | (apply Zaj; exact rfl; apply g_mapup; refine Zbc (k := l[i].name) (j := 1) (.inl rfl) rfl rfl rfl rfl rfl rfl rfl ?_) | refine Za8 ?_ | refine Za1 ?_ | refine Za6 ?_ | (apply Za9; (first | exact Za3 rfl | exact Za4 rfl | exact Zas (b := true) rfl (fun _ => rfl) (fun e => by cases e) | exact Zas (b := false) rfl (fun e => by cases e) (fun _ => rfl) | exact Zb5 rfl rfl | (apply Za7; first | exact Zb2 rfl rfl | exact Zb6 (k := 0) rfl rfl rfl) | (apply Zah; first | exact Zau rfl rfl | exact Zbf rfl rfl) | (apply Zak; exact Zar rfl rfl rfl)); exact rfl) | (refine Zbq rfl rfl rfl rfl rfl ?_) | (apply Zbt; exact rfl; exact rfl; exact rfl; (first | exact Za3 rfl | (apply g_un; exact Zbg rfl)); exact rfl) | refine Zaa ?_ | refine Zag ?_ | (apply Zaj; exact rfl; first | (apply Zao; (refine WO_callv (vs := []) (args := [agg (tieV l[i])]) rfl Tryz.func53 rfl (nameOfTie_any _) rfl ?_; rintro _ _ ⟨rfl, rfl⟩)) | (apply Zbi; refine Zba ?_; intro _) | (apply Zav; refine Zal (k := 0) (l0 := []) rfl rfl rfl ?_)) | (apply Zc8; exact rfl; exact rfl; exact rfl; exact rfl; (apply Zao; (refine Zby (.dup 2 rfl rfl .nil) Tryz.func56 rfl (free_any _) rfl ?_; rintro _ _ ⟨rfl, rfl⟩))) | (refine Zac rfl (fun hb => ?_) (fun hb => ?_) <;> (repeat (first | replace hb := Zam hb | replace hb := Zan hb)) <;> (try (exfalso; omega))))))
       all_goals (try (exfalso; omega))
       all_goals (refine ⟨i + 1, by omega, by omega, ?_⟩; rw [eF, eN, eM]; exact Zbd 1 (by repeat (first | exact Zai | refine Zad rfl ?_)) rfl)
   · rw [decide_eq_false hk] at eN
     have hm := hno.2 hk
     cases fa <;> cases fb
     all_goals ((repeat' (first | (apply Za9; (apply Zc4; exact WT_looko0 (k := l[i].name) (j := 1) rfl rfl rfl hm rfl rfl rfl trivial); exact rfl) | (apply Zaj; exact rfl; apply g_mapup; refine Zbc (k := l[i].name) (j := 1) (.inl rfl) rfl rfl rfl rfl rfl rfl rfl ?_) | refine Za8 ?_ | refine Za1 ?_ | refine Za6 ?_ | (apply Za9; (first | exact Za3 rfl | exact Za4 rfl | exact Zas (b := true) rfl (fun _ => rfl) (fun e => by cases e) | exact Zas (b := false) rfl (fun e => by cases e) (fun _ => rfl) | exact Zb5 rfl rfl | (apply Za7; first | exact Zb2 rfl rfl | exact Zb6 (k := 0) rfl rfl rfl) | (apply Zah; first | exact Zau rfl rfl | exact Zbf rfl rfl) | (apply Zak; exact Zar rfl rfl rfl)); exact rfl) | (refine Zbq rfl rfl rfl rfl rfl ?_) | (apply Zbt; exact rfl; exact rfl; exact rfl; (first | exact Za3 rfl | (apply g_un; exact Zbg rfl)); exact rfl) | refine Zaa ?_ | refine Zag ?_ | (apply Zaj; exact rfl; first | (apply Zao; (refine WO_callv (vs := []) (args := [agg (tieV l[i])]) rfl Tryz.func53 rfl (nameOfTie_any _) rfl ?_; rintro _ _ ⟨rfl, rfl⟩)) | (apply Zbi; refine Zba ?_; intro _) | (apply Zav; refine Zal (k := 0) (l0 := []) rfl rfl rfl ?_)) | (apply Zc8; exact rfl; exact rfl; exact rfl; exact rfl; (apply Zao; (refine Zby (.dup 2 rfl rfl .nil) Tryz.func56 rfl (free_any _) rfl ?_; rintro _ _ ⟨rfl, rfl⟩))) | (refine Zac rfl (fun hb => ?_) (fun hb => ?_) <;> (repeat (first | replace hb := Zam hb | replace hb := Zan hb)) <;> (try (exfalso; omega))))))
     all_goals (try (exfalso; omega))
     all_goals (refine ⟨i + 1, by omega, by omega, ?_⟩; rw [eF, eN, eM]; exact Zbd 1 (by repeat (first | exact Zai | refine Zad rfl ?_)) rfl)
 · have hk9 : i = l.length := by omega
   subst hk9
   have e1 : newN (l.map (·.name)) l.length = onceF (l.map (·.name)) := by rw [← newN_all, List.length_map]
   rw [List.take_length, e1]
   (repeat' (first | refine Za8 ?_ | refine Za1 ?_ | refine Za6 ?_ | (apply Za9; (first | exact Za3 rfl | exact Za4 rfl | (apply Zah; exact Zau rfl rfl)); exact rfl) | refine Zaq ?_ | refine Zbk ?_ | (refine Zac rfl (fun hb => ?_) (fun hb => ?_) <;> (repeat (first | replace hb := Zam hb | replace hb := Zan hb)) <;> (try (exfalso; omega)))))
   all_goals (try (exfalso; omega))
   refine ⟨.inr rfl, ret2 rfl (.tmp rfl) (.tmp rfl) (List.cons_sublist_cons.2 (List.nil_sublist _)) ⟨rfl, rfl⟩⟩
set_option maxRecDepth 100000 in
theorem nameOfRound_any (k : Nat) (x : RoundD) : FnC Tryz.prog 55 [agg (roundV k x)] [] (fun p loc => p = exT x.name ∧ loc = []) := by
 refine Zb7 Tryz.func55 rfl Tryz.ntmps55 rfl fun w0 F0 out => ?_
 (repeat' (first | refine Za8 ?_ | refine Za1 ?_ | refine Za6 ?_ | (apply Za9; (first | exact Za4 rfl | (apply Za7; exact Zab (k := 0) rfl rfl rfl rfl) | (apply Zat; exact Zaf rfl rfl rfl)); exact rfl) | refine Zaq ?_ | (apply Zaj; exact rfl; (apply Zc9; refine Zbz rfl ?_; intro _))))
 refine ⟨.inr rfl, ret1 rfl (.tmp rfl) (List.nil_sublist _) ⟨rfl, rfl⟩⟩
set_option maxHeartbeats 1000000 in
set_option maxRecDepth 100000 in
theorem listRound_any (k : Nat) (l : List RoundD) (b : Nat) (hl : l.length ≤ 1000) : FnC Tryz.prog 54 [ex (.map (some b)), isl (eRound k) l, ex (.func (.func 55) #[] #[])] [omap b ([] : List (List UInt8 × SP)), Tab] (fun p loc => p = tup [exB ((l.map (·.name)).all freeF), exB (onceF (l.map (·.name)))] ∧ loc = [omap b (imapN (l.map (·.name)) l.length)]) := by
 refine Zb7 Tryz.func54 rfl Tryz.ntmps54 rfl fun w0 F0 out => ?_
 (repeat' (first | refine Za8 ?_ | refine Za1 ?_ | refine Za6 ?_ | (apply Za9; (first | exact Za3 rfl | exact Za4 rfl | (apply Zax; exact Zb3 rfl rfl)); exact rfl) | refine Zaa ?_))
 refine Zbv (fun i : Nat => ([(0, ex (.map (some b))), (13, isl (eRound k) l), (14, exI .i64 (l.length : Int)), (15, exI .i64 (i : Int)), (2, ex (.func (.func 55) #[] #[])), (6, exB (((l.take i).map (·.name)).all freeF)), (7, exB (newN (l.map (·.name)) i))], [omap b (imapN (l.map (·.name)) i), Tab])) (fun i => i ≤ l.length) (fun i => l.length - i) 0 ?_ (Nat.zero_le _) fun i hi => ?_
 · exact Zae (by repeat (first | exact Zai | refine Zad rfl ?_)) (List.Sublist.refl _)
 by_cases hlt : i < l.length
 · have hlm : i < (l.map (·.name)).length := by rw [List.length_map]; exact hlt
   have hgm : (l.map (·.name))[i] = l[i].name := List.getElem_map ..
   have eF : ((l.take (i + 1)).map (·.name)).all freeF = (((l.take i).map (·.name)).all freeF && freeF l[i].name) := by
     rw [List.take_succ_eq_append_getElem hlt, List.map_append, List.all_append]; simp
   have eN := newN_succ (l.map (·.name)) i hlm
   rw [hgm] at eN
   have eM : imapN (l.map (·.name)) (i + 1) = mput (imapN (l.map (·.name)) i) l[i].name (exI .i64 (i : Int)) := by
     rw [imapN, List.getD_eq_getElem?_getD, List.getElem?_eq_getElem hlm, hgm]; rfl
   have hno := imapN_none (l.map (·.name)) l[i].name i (by omega)
   generalize ((l.take i).map (·.name)).all freeF = fa at eF ⊢
   generalize newN (l.map (·.name)) i = fb at eN ⊢
   by_cases hk : l[i].name ∈ (l.map (·.name)).take i
   · rw [decide_eq_true hk] at eN
     cases hm : mlook (imapN (l.map (·.name)) i) l[i].name with
     | none => exact absurd (hno.1 hm) (fun h => h hk)
     | some p =>
       obtain ⟨n, rfl⟩ := imapN_int _ _ _ _ hm
       cases fa <;> cases fb
       all_goals ((repeat' (first | (apply Za9; (apply Zc4; exact Zcl (k := l[i].name) (j := 1) rfl rfl rfl hm rfl rfl rfl trivial); exact rfl) | (apply Zaj; exact rfl; apply g_mapup; refine Zbc (k := l[i].name) (j := 1) (.inl rfl) rfl rfl rfl rfl rfl rfl rfl ?_) | refine Za8 ?_ | refine Za1 ?_ | refine Za6 ?_ | (apply Za9; (first | exact Za3 rfl | exact Za4 rfl | exact Zas (b := true) rfl (fun _ => rfl) (fun e => by cases e) | exact Zas (b := false) rfl (fun e => by cases e) (fun _ => rfl) | exact Zb5 rfl rfl | (apply Za7; first | exact Zb2 rfl rfl | exact Zb6 (k := 0) rfl rfl rfl) | (apply Zah; first | exact Zau rfl rfl | exact Zbf rfl rfl) | (apply Zak; exact Zar rfl rfl rfl)); exact rfl) | (refine Zbq rfl rfl rfl rfl rfl ?_) | (apply Zbt; exact rfl; exact rfl; exact rfl; (first | exact Za3 rfl | (apply g_un; exact Zbg rfl)); exact rfl) | refine Zaa ?_ | refine Zag ?_ | (apply Zaj; exact rfl; first | (apply Zao; (refine WO_callv (vs := []) (args := [agg (roundV k l[i])]) rfl Tryz.func55 rfl (nameOfRound_any k _) rfl ?_; rintro _ _ ⟨rfl, rfl⟩)) | (apply Zbi; refine Zba ?_; intro _) | (apply Zav; refine Zal (k := 0) (l0 := []) rfl rfl rfl ?_)) | (apply Zc8; exact rfl; exact rfl; exact rfl; exact rfl; (apply Zao; (refine Zby (.dup 2 rfl rfl .nil) Tryz.func56 rfl (free_any _) rfl ?_; rintro _ _ ⟨rfl, rfl⟩))) | (refine Zac rfl (fun hb => ?_) (fun hb => ?_) <;> (repeat (first | replace hb := Zam hb | replace hb := Zan hb)) <;> (try (exfalso; omega))))))
       all_goals (try (exfalso; omega))
       all_goals (refine ⟨i + 1, by omega, by omega, ?_⟩; rw [eF, eN, eM]; exact Zbd 1 (by repeat (first | exact Zai | refine Zad rfl ?_)) rfl)
   · rw [decide_eq_false hk] at eN
     have hm := hno.2 hk
     cases fa <;> cases fb
     all_goals ((repeat' (first | (apply Za9; (apply Zc4; exact WT_looko0 (k := l[i].name) (j := 1) rfl rfl rfl hm rfl rfl rfl trivial); exact rfl) | (apply Zaj; exact rfl; apply g_mapup; refine Zbc (k := l[i].name) (j := 1) (.inl rfl) rfl rfl rfl rfl rfl rfl rfl ?_) | refine Za8 ?_ | refine Za1 ?_ | refine Za6 ?_ | (apply Za9; (first | exact Za3 rfl | exact Za4 rfl | exact Zas (b := true) rfl (fun _ => rfl) (fun e => by cases e) | exact Zas (b := false) rfl (fun e => by cases e) (fun _ => rfl) | exact Zb5 rfl rfl | (apply Za7; first | exact Zb2 rfl rfl | exact Zb6 (k := 0) rfl rfl rfl) | (apply Zah; first | exact Zau rfl rfl | exact Zbf rfl rfl) | (apply Zak; exact Zar rfl rfl rfl)); exact rfl) | (refine Zbq rfl rfl rfl rfl rfl ?_) | (apply Zbt; exact rfl; exact rfl; exact rfl; (first | exact Za3 rfl | (apply g_un; exact Zbg rfl)); exact rfl) | refine Zaa ?_ | refine Zag ?_ | (apply Zaj; exact rfl; first | (apply Zao; (refine WO_callv (vs := []) (args := [agg (roundV k l[i])]) rfl Tryz.func55 rfl (nameOfRound_any k _) rfl ?_; rintro _ _ ⟨rfl, rfl⟩)) | (apply Zbi; refine Zba ?_; intro _) | (apply Zav; refine Zal (k := 0) (l0 := []) rfl rfl rfl ?_)) | (apply Zc8; exact rfl; exact rfl; exact rfl; exact rfl; (apply Zao; (refine Zby (.dup 2 rfl rfl .nil) Tryz.func56 rfl (free_any _) rfl ?_; rintro _ _ ⟨rfl, rfl⟩))) | (refine Zac rfl (fun hb => ?_) (fun hb => ?_) <;> (repeat (first | replace hb := Zam hb | replace hb := Zan hb)) <;> (try (exfalso; omega))))))
     all_goals (try (exfalso; omega))
     all_goals (refine ⟨i + 1, by omega, by omega, ?_⟩; rw [eF, eN, eM]; exact Zbd 1 (by repeat (first | exact Zai | refine Zad rfl ?_)) rfl)
 · have hk9 : i = l.length := by omega
   subst hk9
   have e1 : newN (l.map (·.name)) l.length = onceF (l.map (·.name)) := by rw [← newN_all, List.length_map]
   rw [List.take_length, e1]
   (repeat' (first | refine Za8 ?_ | refine Za1 ?_ | refine Za6 ?_ | (apply Za9; (first | exact Za3 rfl | exact Za4 rfl | (apply Zah; exact Zau rfl rfl)); exact rfl) | refine Zaq ?_ | refine Zbk ?_ | (refine Zac rfl (fun hb => ?_) (fun hb => ?_) <;> (repeat (first | replace hb := Zam hb | replace hb := Zan hb)) <;> (try (exfalso; omega)))))
   all_goals (try (exfalso; omega))
   refine ⟨.inr rfl, ret2 rfl (.tmp rfl) (.tmp rfl) (List.cons_sublist_cons.2 (List.nil_sublist _)) ⟨rfl, rfl⟩⟩
end Go.Proofs.YthldagplhklbnaaGreatDoor
namespace Go.Fr
open Go.RowKit Go.Kx
open Ex (lookF lookF_some lookF_get)
namespace RulesD
def keyL (r : RulesD) (kind : Int) (s : List UInt8) : Option (Option Int) := if kind = 1 then some (lookF r.n0 s) else if kind = 2 then some (lookF r.n3 s) else if kind = 5 then some (lookF r.n2 s) else none
def keyP (r : RulesD) (k : KeyD) : KeyD := match r.keyL k.kind k.name with
 | some o => { k with n := o.getD 0 }
 | none => k
def keyPok (r : RulesD) (k : KeyD) : Bool := match r.keyL k.kind k.name with
 | some o => o.isSome
 | none => true
theorem keyPok_eq (r : RulesD) (k : KeyD) : r.keyPok k = keyOk r.n0 r.n2 r.n3 k := by
 unfold keyPok keyL keyOk
 split
 · rename_i o h
   split at h
   · rename_i h1; cases h; rw [if_pos h1, lookF_some]
   · rename_i h1
     rw [if_neg h1]
     split at h
     · rename_i h2; cases h; rw [if_pos h2, lookF_some]
     · rename_i h2
       rw [if_neg h2]
       split at h
       · rename_i h3; cases h; rw [if_pos h3, lookF_some]
       · cases h
 · rename_i h
   split at h
   · cases h
   · rename_i h1
     rw [if_neg h1]
     split at h
     · cases h
     · rename_i h2
       rw [if_neg h2]
       split at h
       · cases h
       · rename_i h3; rw [if_neg h3]
theorem keyP_eq (r : RulesD) (k : KeyD) (hk : keyOk r.n0 r.n2 r.n3 k = true) : r.keyP k = keyN r.n0 r.n2 r.n3 k := by
 unfold keyOk at hk
 unfold keyP keyL keyN
 by_cases h1 : k.kind = 1
 · rw [if_pos h1] at hk
   simp only [if_pos h1, lookF_get _ _ (of_decide_eq_true hk)]
 · rw [if_neg h1] at hk
   by_cases h2 : k.kind = 2
   · rw [if_pos h2] at hk
     simp only [if_neg h1, if_pos h2, lookF_get _ _ (of_decide_eq_true hk)]
   · rw [if_neg h2] at hk
     by_cases h5 : k.kind = 5
     · rw [if_pos h5] at hk
       simp only [if_neg h1, if_neg h2, if_pos h5, lookF_get _ _ (of_decide_eq_true hk)]
     · simp only [if_neg h1, if_neg h2, if_neg h5]
def tieP (r : RulesD) (t : TieD) : TieD := { t with keys := t.keys.map r.keyP }
def tiePok (r : RulesD) (t : TieD) : Bool := t.keys.all r.keyPok
theorem tiePok_eq (r : RulesD) (t : TieD) : r.tiePok t = r.tieOk t := by
 unfold tiePok tieOk
 rw [show r.keyPok = keyOk r.n0 r.n2 r.n3 from funext (keyPok_eq r)]
theorem tieP_eq (r : RulesD) (t : TieD) (h : r.tieOk t = true) : r.tieP t = r.tieN t := by
 unfold tieP tieN
 unfold tieOk at h
 rw [List.all_eq_true] at h
 rw [List.map_congr_left fun k hk => keyP_eq r k (h k hk)]
def roundP (r : RulesD) (y : RoundD) : RoundD := { y with score := y.score.resP (lookF r.n0) (lookF r.n3), tieNo := if y.tie = [] then -1 else (lookF r.n2 y.tie).getD 0 }
def roundPok (r : RulesD) (y : RoundD) : Bool := y.score.okP (lookF r.n0) (lookF r.n3) && (decide (y.tie = []) || (lookF r.n2 y.tie).isSome)
theorem roundPok_eq (r : RulesD) (y : RoundD) : r.roundPok y = r.roundOk y := by
 unfold roundPok roundOk; rw [Ex.okP_eq, lookF_some]
theorem roundP_eq (r : RulesD) (y : RoundD) (h : r.roundOk y = true) : r.roundP y = r.roundN y := by
 unfold roundOk at h
 simp only [Bool.and_eq_true, Bool.or_eq_true, decide_eq_true_eq] at h
 unfold roundP roundN
 rw [Ex.resP_eq _ _ _ h.1]
 split
 · rfl
 · rename_i ht
   rw [lookF_get _ _ (h.2.resolve_left ht)]
theorem resolvedP_eq (r : RulesD) (h : r.allOk = true) : ({ r with ties := r.ties.map r.tieP, rounds := r.rounds.map r.roundP } : RulesD) = r.resolved := by
 unfold allOk at h
 simp only [Bool.and_eq_true, List.all_eq_true] at h
 unfold resolved
 rw [List.map_congr_left fun t ht => tieP_eq r t (h.1 t ht), List.map_congr_left fun t ht => roundP_eq r t (h.2 t ht)]
theorem allPok_eq (r : RulesD) : (r.ties.all r.tiePok && r.rounds.all r.roundPok) = r.allOk := by
 unfold allOk
 rw [show r.tiePok = r.tieOk from funext (tiePok_eq r), show r.roundPok = r.roundOk from funext (roundPok_eq r)]
end RulesD
end Go.Fr
namespace Go.Proofs.YthldagplhklbnaaGreatDoor
open Go Go.RowKit Go.Kx Go.Fr
def rights : Nat → Code → Code
 | 0, c => c
 | n + 1, .seq _ y => rights n y
 | _ + 1, c => c
theorem imapN_look (l : List (List UInt8)) (h : onceF l = true) (s : List UInt8) : mlook (imapN l l.length) s = (Ex.lookF l s).map (exI .i64) := by
 unfold Ex.lookF
 split
 · rename_i hm
   exact imapN_some l h s l.length (Nat.le_refl _) (by rw [List.take_length]; exact hm)
 · rename_i hm
   exact (imapN_none l s l.length (Nat.le_refl _)).2 (by rw [List.take_length]; exact hm)
theorem im_zeroW (k : Nat) : Im (agg [ex (.string .empty), ex (.slice none 0 0), ex (.slice none 0 0), ex (.slice none 0 0), ex (.slice none 0 0), ex (.slice none 0 0), ex (.slice none 0 0), ex (.slice none 0 0), ex (.int .i64 0)]) (rul k RulesD.zero) := Ims.agg (.cons (.refl _) (.cons .nil (.cons .nil (.cons .nil (.cons .nil (.cons .nil (.cons .nil (.cons .nil (.cons (.refl _) .nil)))))))))
theorem all_succ' {α : Type} {l : List α} {p : α → Bool} {i : Nat} (h : i < l.length) : (l.take (i + 1)).all p = ((l.take i).all p && p l[i]) := by
 rw [List.take_succ_eq_append_getElem h, List.all_append]; simp
theorem upd_succ {α : Type} (l : List α) (f : α → α) (i : Nat) (h : i < l.length) : ((l.take (i + 1)).map f ++ l.drop (i + 1)) = ((l.take i).map f ++ l.drop i).set i (f l[i]) := by
 have hm : ((l.take i).map f).length = i := by simp; omega
 rw [List.take_succ_eq_append_getElem h, List.map_append, List.append_assoc, List.drop_eq_getElem_cons h, List.set_append_right _ _ (by omega), hm, Nat.sub_self]
 rfl
theorem upd_len {α : Type} (l : List α) (f : α → α) (i : Nat) (h : i < l.length) : ((l.take i).map f ++ l.drop i).length = l.length := by simp; omega
theorem upd_at {α : Type} (l : List α) (f : α → α) (i : Nat) (h : i < l.length) (h2 : i < ((l.take i).map f ++ l.drop i).length) : ((l.take i).map f ++ l.drop i)[i] = l[i] := by
 have hm : ((l.take i).map f).length = i := by simp; omega
 rw [List.getElem_append_right (by omega)]
 simp only [hm, Nat.sub_self]
 simp
theorem flat_part {α : Type} {fs : α → List SP} {s : Nat} (h0 : ∀ a, (fs a).length = s) (l : List α) (i : Nat) (hi : i < l.length) (j m : Nat) (hjm : j + m ≤ s) : ((l.flatMap fs).drop (i * s + j)).take m = ((fs l[i]).drop j).take m := by
 rw [← List.drop_drop, flat_drop h0 l i hi, List.drop_append_of_le_length (by rw [h0]; omega), List.take_append_of_le_length (by rw [List.length_drop, h0]; omega)]
theorem putC_part {α : Type} {fs : α → List SP} {s : Nat} (h0 : ∀ a, (fs a).length = s) (l : List α) (i : Nat) (hi : i < l.length) (j : Nat) (qs : List SP) (x : α) (hjm : j + qs.length ≤ s) (hx : putC (fs l[i]) j qs = fs x) : putC (l.flatMap fs) (i * s + j) qs = (l.set i x).flatMap fs := by
 rw [← putC_flat h0 l i hi x, ← hx]
 have hz := length_flat h0 l
 have h2 : (i + 1) * s ≤ l.length * s := Nat.mul_le_mul_right _ hi
 rw [Nat.succ_mul] at h2
 have hl2 : (putC (fs l[i]) j qs).length = s := by rw [putC_length (by rw [h0]; exact hjm), h0]
 apply List.ext_getElem?
 intro m
 rw [putC_get (by rw [hz]; omega), putC_get (by rw [hz, hl2]; omega), hl2]
 by_cases hm : i * s ≤ m ∧ m < i * s + s
 · rw [if_pos hm, putC_get (by rw [h0]; exact hjm)]
   by_cases hm2 : i * s + j ≤ m ∧ m < i * s + j + qs.length
   · rw [if_pos hm2, if_pos (by omega), show m - (i * s + j) = m - i * s - j by omega]
   · rw [if_neg hm2, if_neg (by omega), ← flat_at h0 l i hi (m - i * s) (by omega), show i * s + (m - i * s) = m by omega]
 · rw [if_neg hm, if_neg (by omega)]
instance {k : Nat} {c : Ex} : Scs (exV k c) := by unfold exV; infer_instance
section
variable {C : Cx} {H : Nat → Prop} {l0 : List Ent} {env : Env} {loc : List Ent} {d : Nat} {dst : Option Tmp} {ty : TypeId} {pos : String} {af : Array Edge} {g : Option (Nat × Bool)} {K : Env → List Ent → Prop}
theorem WT_loadQ {qs : List SP} {t : TypeId} {x : Operand} {k b off T tot : Nat} {ps : List SP} {dd : TypeDesc} {sz bt : Nat} {z : Value} (hx : ev env x = some (ex (.pointer (some ⟨b, off, none⟩)))) (he : loc[k]? = some (row b T tot ps)) (hu : C.P.underlying t = some dd) [hT : TI C.P t sz bt z] (hq : (ps.drop off).take sz = qs) (hl : off + sz ≤ ps.length) (hH : H b := by first | trivial | exact Zc1 (k := 0) rfl | exact Zc1 (k := 1) rfl | exact Zc1 (k := 2) rfl | exact Zc1 (k := 3) rfl | exact Zc1 (k := 4) rfl | exact Zc1 (k := 5) rfl | exact Zc1 (k := 6) rfl | exact Zc1 (k := 7) rfl) (hd : Desc.aggB dd = true := by rfl) : WT C (Hold H) ⟨dst, .load t x, ty, pos, af, g⟩ (agg qs) env loc :=
 Zb6 hx he hu hH hd (Nat.ble_eq_true_of_le hl) ⟨hq.symm⟩
theorem WO_storeQ {t : TypeId} {x y : Operand} {k b off T tot sz bt : Nat} {ps qs ps' : List SP} {z : Value} (hx : ev env x = some (ex (.pointer (some ⟨b, off, none⟩)))) (hy : ev env y = some (agg qs)) (he : loc[k]? = some (row b T tot ps)) (hq : putC ps off qs = ps') [hT : TI C.P t sz bt z] (hsz : qs.length = sz) [hs : Scs qs] (hk : K env (loc.set k (row b T tot ps'))) (ho : off + sz ≤ ps.length) (hH : l0.Sublist (loc.eraseIdx k) := by exact List.nil_sublist _) : WO C (feet l0) ⟨none, .store t x y, ty, pos, af, g⟩ K env loc := by
 subst hq
 subst hsz
 exact Zal (k := k) (qs := qs) hx hy he (hc := AsC_agg) (hs := hs) (hT := hT) hk ho hH
end
end Go.Proofs.YthldagplhklbnaaGreatDoor
namespace Go.Proofs.YthldagplhklbnaaGreatDoor
open Go Go.RowKit Go.Kx Go.Fr
set_option maxHeartbeats 4000000 in
set_option maxRecDepth 100000 in
theorem nres_rounds (k : Nat) (r : RulesD) (hf : r.few = true) (M0 M2 M3 : List (List UInt8 × SP)) (h0 : ∀ s, mlook M0 s = (Ex.lookF r.n0 s).map (exI .i64)) (h2 : ∀ s, mlook M2 s = (Ex.lookF r.n2 s).map (exI .i64)) (h3 : ∀ s, mlook M3 s = (Ex.lookF r.n3 s).map (exI .i64)) (w0 : World) (F0 : Nat → Prop) (out : List Ent) (b2 bl b4 b7 b17 b18 : Nat) (oa2 : Option Addr) (c2 : Nat) :
   WP ⟨Tryz.prog, w0, F0, footX [Tab], out, 218, []⟩ (rights 16 (Tryz.f23.body.getD .skip)) (retP ⟨Tryz.prog, w0, F0, footX [Tab], out, 218, []⟩ Tryz.f23 (fun p loc => p = tup [rul k (if !r.allOk then (RulesD.zero, (140 : Int)) else (r.resolved, 0)).1, exI .i64 (if !r.allOk then (RulesD.zero, (140 : Int)) else (r.resolved, 0)).2] ∧ loc = []))
     [(2, ex (.pointer (some ⟨b2, 0, none⟩))), (4, fpx b4 [fmap M0]), (6, fmap M2), (7, fpx b7 [fmap M3]), (16, ex (.pointer (some ⟨bl, 0, none⟩))), (17, fpx b17 [ex (FIND bl)]), (18, fpx b18 [ex (EXPR b17 b4 b7 b18)])] [vec (.slice oa2 r.rounds.length c2) 48 13 r.rounds.length (r.rounds.flatMap (roundV k)), row bl 4 1 [exB (!r.ties.all r.tiePok)], row b2 28 9 [exT r.name, isl eCrit r.crits, isl eItem r.bonus, isl eItem r.malus, isl eTie (r.ties.map r.tieP), ex (.slice oa2 r.rounds.length c2), isl eI r.prizes, isl eI r.points, exI .i64 r.best]] := by
 obtain ⟨hf1, hf2, hf3, hf4, hf5, hf6, hf7, hf8, hf9⟩ := few_facts hf
 generalize hlo1 : (!r.ties.all r.tiePok) = lo1
 (repeat' (first | refine Za8 ?_ | refine Za1 ?_ | refine Za6 ?_ | (apply Za9; (first | exact Za3 rfl | (apply Za7; exact Zab (k := 2) rfl rfl rfl rfl) | (apply Zat; exact Zaf rfl rfl rfl) | (apply Zax; exact WT_lenv rfl rfl)); exact rfl) | refine Zaa ?_))
 refine Zbv (fun n : Nat => ([(2, ex (.pointer (some ⟨b2, 0, none⟩))), (4, fpx b4 [fmap M0]), (6, fmap M2), (7, fpx b7 [fmap M3]), (16, ex (.pointer (some ⟨bl, 0, none⟩))), (17, fpx b17 [ex (FIND bl)]), (18, fpx b18 [ex (EXPR b17 b4 b7 b18)]), (179, exI .i64 (r.rounds.length : Int)), (180, exI .i64 (n : Int))], [vec (.slice oa2 r.rounds.length c2) 48 13 r.rounds.length (((r.rounds.take n).map r.roundP ++ r.rounds.drop n).flatMap (roundV k)), row bl 4 1 [exB (lo1 || !(r.rounds.take n).all r.roundPok)], row b2 28 9 [exT r.name, isl eCrit r.crits, isl eItem r.bonus, isl eItem r.malus, isl eTie (r.ties.map r.tieP), ex (.slice oa2 r.rounds.length c2), isl eI r.prizes, isl eI r.points, exI .i64 r.best]])) (fun n => n ≤ r.rounds.length) (fun n => r.rounds.length - n) 0 ?_ (Nat.zero_le _) fun n hn => ?_
 · simp only [List.take_zero, List.map_nil, List.drop_zero, List.nil_append, List.all_nil, Bool.not_true, Bool.or_false]
   exact Zae (by repeat (first | exact Zai | refine Zad rfl ?_)) (List.Sublist.refl _)
 by_cases hlt : n < r.rounds.length
 · have eL := upd_succ r.rounds r.roundP n hlt
   have hLl := upd_len r.rounds r.roundP n hlt
   have hLi := upd_at r.rounds r.roundP n hlt
   have eB : (lo1 || !(r.rounds.take (n + 1)).all r.roundPok) = ((lo1 || !(r.rounds.take n).all r.roundPok) || !r.roundPok r.rounds[n]) := by
     rw [all_succ' hlt, Bool.not_and, Bool.or_assoc]
   generalize ((r.rounds.take n).map r.roundP ++ r.rounds.drop n) = L at eL hLl hLi ⊢
   generalize (lo1 || !(r.rounds.take n).all r.roundPok) = lo2 at eB ⊢
   have hnL : n < L.length := by omega
   have hLi := hLi hnL
   generalize hyy : r.rounds[n] = y at eL eB hLi
   have hRl : (L.flatMap (roundV k)).length = L.length * 13 := length_flat (fs := roundV k) (s := 13) (fun _ => rfl) L
   have hD6 : ((L.flatMap (roundV k)).drop (0 + n * 13 + 6)).take 5 = exV k y.score := by
     rw [Nat.zero_add, flat_part (fs := roundV k) (s := 13) (fun _ => rfl) L n hnL 6 5 (by decide), hLi]; rfl
   have hO6 : 0 + n * 13 + 6 + 5 ≤ (L.flatMap (roundV k)).length := by omega
   have hP6 : putC (L.flatMap (roundV k)) (0 + n * 13 + 6) (exV k (y.score.resP (Ex.lookF r.n0) (Ex.lookF r.n3))) = (L.set n { y with score := y.score.resP (Ex.lookF r.n0) (Ex.lookF r.n3) }).flatMap (roundV k) := by
     rw [Nat.zero_add]
     exact putC_part (fs := roundV k) (s := 13) (fun _ => rfl) L n hnL 6 _ _ (by show 6 + 5 ≤ 13; decide) (by rw [hLi]; rfl)
   refine WP_vec3 (k := 0) rfl (by omega) fun bR c2' hv hnc hcm => ?_
   cases hv
   (repeat' (first | (apply cut_at 35; refine Stop.out ?_) | refine Za8 ?_ | refine Za1 ?_ | refine Za6 ?_ | (apply Za9; (first | exact Za3 rfl | exact Za4 rfl | (apply Za7; exact Zab (k := 2) rfl rfl rfl rfl) | (apply Zat; exact Zaf rfl rfl rfl) | (apply Zah; exact Zau rfl rfl) | (apply Zak; exact Zc0 rfl rfl rfl)); exact rfl) | refine Zaa ?_ | refine Zag ?_ | (refine Zac rfl (fun hb => ?_) (fun hb => ?_) <;> (repeat (first | replace hb := Zam hb | replace hb := Zan hb)) <;> (try (exfalso; omega)))))
   have hcall := nexpr_any M0 M3 (Ex.lookF r.n0) (Ex.lookF r.n3) h0 h3 bl b17 b4 b7 b18 k y.score lo2
   refine ⟨WP_cutR 35 (fun _ : Unit => ([(25, ex (.pointer (some ⟨bR, 0 + n * 13, none⟩))), (2, ex (.pointer (some ⟨b2, 0, none⟩))), (4, fpx b4 [fmap M0]), (6, fmap M2), (7, fpx b7 [fmap M3]), (16, ex (.pointer (some ⟨bl, 0, none⟩))), (17, fpx b17 [ex (FIND bl)]), (18, fpx b18 [ex (EXPR b17 b4 b7 b18)]), (179, exI .i64 (r.rounds.length : Int)), (180, exI .i64 (n : Int))], [row bl 4 1 [exB (lo2 || !y.score.okP (Ex.lookF r.n0) (Ex.lookF r.n3))], row bR 48 (c2 * 13) ((L.set n { y with score := y.score.resP (Ex.lookF r.n0) (Ex.lookF r.n3) }).flatMap (roundV k)), row b2 28 9 [exT r.name, isl eCrit r.crits, isl eItem r.bonus, isl eItem r.malus, isl eTie (r.ties.map r.tieP), ex (.slice (some ⟨bR, 0, none⟩) r.rounds.length c2), isl eI r.prizes, isl eI r.points, exI .i64 r.best]])) (fun _ => True) ?_ fun _ _ => ?_⟩
   · skip
     (refine Zbx 6 rfl ?_)
     (apply Za2 0 rfl (by decide +kernel) rfl (by repeat (first | exact Za5)) Za0; (first | exact Za3 rfl); exact rfl)
     (apply Zb0 1 rfl (by decide +kernel) rfl (by decide +kernel) (by repeat (first | exact Za5)) Za0; (first | (apply Za7; first | exact Zcf rfl rfl)); exact rfl)
     (apply Za2 2 rfl (by decide +kernel) rfl (by repeat (first | exact Za5)) Za0; (first | exact Za3 rfl); exact rfl)
     (apply Za2 3 rfl (by decide +kernel) rfl (by repeat (first | exact Za5)) Za0; (first | (apply Zcq; first | exact Zcm rfl)); exact rfl)
     (apply Za2 4 rfl (by decide +kernel) rfl (by repeat (first | exact Za5)) Za0; (first | (apply Zat; first | exact Zaf rfl rfl rfl)); exact rfl)
     (apply Zb0 5 rfl (by decide +kernel) rfl (by decide +kernel) (by repeat (exact Za5)) Za0; ((apply Za7; exact WT_loadQ (k := 0) rfl rfl rfl (by assumption) (by assumption))); exact rfl)
     (refine Zap (H' := feet []) 6 (by decide +kernel) rfl Za0 (fun h => absurd h (by decide)) ?_)
     ((apply Zao; (refine WO_callvG (vs := [.pointer (some ⟨b17, 0, none⟩), .pointer (some ⟨b4, 0, none⟩), .pointer (some ⟨b7, 0, none⟩), .pointer (some ⟨b18, 0, none⟩)]) (caps := [fpx b17 [ex (FIND bl)], fpx b4 [fmap M0], fpx b7 [fmap M3], fpx b18 [ex (EXPR b17 b4 b7 b18)]]) (args := [_]) rfl (.slot 17 rfl (fun _ _ _ h => h.1) (.slot 4 rfl (fun _ _ _ h => h.1) (.slot 7 rfl (fun _ _ _ h => h.1) (.slot 18 rfl (fun _ _ _ h => h.1) .nil)))) (.one 1 rfl .nil) Tryz.func58 rfl hcall rfl ?_; rintro _ _ ⟨rfl, rfl⟩)))
     (refine Zap (H' := fun _ => True) 7 (by decide +kernel) rfl Za0 (fun _ _ _ => trivial) ?_)
     ((apply WO_t (H := fun _ => True); (first | (apply Zcq; first | exact Zcm rfl)); exact rfl))
     (refine Zap (H' := fun _ => True) 8 (by decide +kernel) rfl Za0 (fun _ _ _ => trivial) ?_)
     ((apply WO_t (H := fun _ => True); (first | (apply Zat; first | exact Zaf rfl rfl rfl)); exact rfl))
     (refine Zap (H' := feet []) 9 (by decide +kernel) rfl Za0 (fun h => absurd h (by decide)) ?_)
     (first | (apply Zav; refine WO_storeQ (k := 1) (l0 := []) rfl rfl rfl hP6 rfl ?_ hO6))
     refine Zb9 (by decide +kernel) ?_
     exact Zbp () trivial (Zae (by repeat (first | exact Zai | refine Zad rfl ?_)) (List.Sublist.refl _))
   clear hcall hD6 hO6 hP6
   have hnL1 : n < (L.set n { y with score := y.score.resP (Ex.lookF r.n0) (Ex.lookF r.n3) }).length := by rw [List.length_set]; exact hnL
   have hR1l : ((L.set n { y with score := y.score.resP (Ex.lookF r.n0) (Ex.lookF r.n3) }).flatMap (roundV k)).length = L.length * 13 := by
     rw [length_flat (fs := roundV k) (s := 13) (fun _ => rfl), List.length_set]
   have hset : ∀ m : Int, ((L.set n { y with score := y.score.resP (Ex.lookF r.n0) (Ex.lookF r.n3) }).flatMap (roundV k)).set (0 + n * 13 + 12) (exI .i64 m) = (L.set n { y with score := y.score.resP (Ex.lookF r.n0) (Ex.lookF r.n3), tieNo := m }).flatMap (roundV k) := fun m => by
     rw [Nat.zero_add, flat_set1 (fs := roundV k) (s := 13) (fun _ => rfl) _ n hnL1 12 (by decide) (exI .i64 m) { y with score := y.score.resP (Ex.lookF r.n0) (Ex.lookF r.n3), tieNo := m } (by rw [List.getElem_set_self]; rfl), List.set_set]
   have hR11 : (((L.set n { y with score := y.score.resP (Ex.lookF r.n0) (Ex.lookF r.n3) }).flatMap (roundV k)).set (0 + n * 13 + 12) (exI .i64 (-1)))[0 + n * 13 + 11]? = some (exT y.tie) := by
     rw [List.getElem?_set_ne (by omega), Nat.zero_add, flat_at (fs := roundV k) (s := 13) (fun _ => rfl) _ n hnL1 11 (by decide), List.getElem_set_self]; rfl
   generalize ((L.set n { y with score := y.score.resP (Ex.lookF r.n0) (Ex.lookF r.n3) }).flatMap (roundV k)) = R1 at hR1l hset hR11 ⊢
   have hO12 : 0 + n * 13 + 12 < R1.length := by omega
   rw [← putC_one hO12] at hR11
   have hO12' : 0 + n * 13 + 12 < (putC R1 (0 + n * 13 + 12) [exI .i64 (-1)]).length := by rw [putC_one hO12, List.length_set]; exact hO12
   by_cases ht : y.tie = []
   · (repeat' (first | (apply Zbh 38; refine Stop.out ?_) | refine Za8 ?_ | refine Za1 ?_ | refine Za6 ?_ | (apply Za9; (first | exact Za3 rfl | (apply Za7; exact Zab (k := 1) rfl rfl (by assumption) rfl) | (apply Zat; exact Zaf rfl rfl rfl) | (apply Zah; first | exact WT_tne rfl rfl | exact Zbf rfl rfl) | (apply Zcq; exact Zcm rfl)); exact rfl) | refine Zag ?_ | (apply Zaj; exact rfl; (apply Zav; refine Zal (k := 1) (l0 := []) rfl rfl rfl ?_)) | (refine Zac rfl (fun hb => ?_) (fun hb => ?_) <;> (repeat (first | replace hb := Zam hb | replace hb := Zan hb | replace hb := Zbr hb | replace hb := Zbs hb)) <;> (try (exfalso; fail)))))
     all_goals (try (exfalso; simp [ht] at hb; done))
     refine ⟨n + 1, by omega, by omega, ?_⟩
     have e1 : r.roundP y = { y with score := y.score.resP (Ex.lookF r.n0) (Ex.lookF r.n3), tieNo := -1 } := by unfold RulesD.roundP; rw [if_pos ht]
     have e2 : r.roundPok y = y.score.okP (Ex.lookF r.n0) (Ex.lookF r.n3) := by unfold RulesD.roundPok; simp [ht]
     rw [eL, eB, e1, ← hset, e2, putC_one hO12]
     refine (Leads_perm (List.Perm.swap _ _ _)).trans ?_
     refine Leads_row_vec (k := 0) (sz := 13) (n := r.rounds.length) (c := c2) rfl rfl ?_ (by decide) hcm ?_
     · rw [List.length_set, hR1l, hLl]
     exact Zae (by repeat (first | exact Zai | refine Zad rfl ?_)) (List.Sublist.refl _)
   · (repeat' (first | (apply Zbh 38; refine Stop.out ?_) | refine Za8 ?_ | refine Za1 ?_ | refine Za6 ?_ | (apply Za9; (first | exact Za3 rfl | (apply Za7; exact Zab (k := 1) rfl rfl (by assumption) rfl) | (apply Zat; exact Zaf rfl rfl rfl) | (apply Zah; first | exact WT_tne rfl rfl | exact Zbf rfl rfl) | (apply Zcq; exact Zcm rfl)); exact rfl) | refine Zag ?_ | (apply Zaj; exact rfl; (apply Zav; refine Zal (k := 1) (l0 := []) rfl rfl rfl ?_)) | (refine Zac rfl (fun hb => ?_) (fun hb => ?_) <;> (repeat (first | replace hb := Zam hb | replace hb := Zan hb | replace hb := Zbr hb | replace hb := Zbs hb)) <;> (try (exfalso; fail)))))
     all_goals (try (exfalso; simp [ht] at hb; done))
     constructor
     have hfnd := find_any M2 y.tie (Ex.lookF r.n2 y.tie) bl (lo2 || !y.score.okP (Ex.lookF r.n0) (Ex.lookF r.n3)) (h2 _)
     refine WP_cut1 (fun _ : Unit => ([(2, ex (.pointer (some ⟨b2, 0, none⟩))), (4, fpx b4 [fmap M0]), (6, fmap M2), (7, fpx b7 [fmap M3]), (16, ex (.pointer (some ⟨bl, 0, none⟩))), (17, fpx b17 [ex (FIND bl)]), (18, fpx b18 [ex (EXPR b17 b4 b7 b18)]), (179, exI .i64 (r.rounds.length : Int)), (180, exI .i64 (n : Int))], [row bl 4 1 [exB ((lo2 || !y.score.okP (Ex.lookF r.n0) (Ex.lookF r.n3)) || (Ex.lookF r.n2 y.tie).isNone)], row bR 48 (c2 * 13) ((putC R1 (0 + n * 13 + 12) [exI .i64 (-1)]).set (0 + n * 13 + 12) (exI .i64 ((Ex.lookF r.n2 y.tie).getD 0))), row b2 28 9 [exT r.name, isl eCrit r.crits, isl eItem r.bonus, isl eItem r.malus, isl eTie (r.ties.map r.tieP), ex (.slice (some ⟨bR, 0, none⟩) r.rounds.length c2), isl eI r.prizes, isl eI r.points, exI .i64 r.best]])) (fun _ => True) ?_ fun _ _ => ?_
     · skip
       (refine Zbx 7 rfl ?_)
       (apply Za2 0 rfl (by decide +kernel) rfl (by repeat (first | exact Za5)) Za0; (first | exact Za3 rfl); exact rfl)
       (apply Zb0 1 rfl (by decide +kernel) rfl (by decide +kernel) (by repeat (first | exact Za5)) Za0; (first | (apply Za7; first | exact Zcf rfl rfl)); exact rfl)
       (apply Za2 2 rfl (by decide +kernel) rfl (by repeat (first | exact Za5)) Za0; (first | exact Za3 rfl); exact rfl)
       (apply Za2 3 rfl (by decide +kernel) rfl (by repeat (first | exact Za5)) Za0; (first | exact Za3 rfl); exact rfl)
       (apply Za2 4 rfl (by decide +kernel) rfl (by repeat (first | exact Za5)) Za0; (first | (apply Zcq; first | exact Zcm rfl)); exact rfl)
       (apply Za2 5 rfl (by decide +kernel) rfl (by repeat (first | exact Za5)) Za0; (first | (apply Zat; first | exact Zaf rfl rfl rfl)); exact rfl)
       (apply Zb0 6 rfl (by decide +kernel) rfl (by decide +kernel) (by repeat (exact Za5)) Za0; ((apply Za7; exact Zab (k := 1) rfl rfl (by assumption) rfl)); exact rfl)
       (refine Zap (H' := feet []) 7 (by decide +kernel) rfl Za0 (fun h => absurd h (by decide)) ?_)
       ((apply Zao; (refine WO_callvG (vs := [.pointer (some ⟨bl, 0, none⟩)]) (caps := [ex (.pointer (some ⟨bl, 0, none⟩))]) (args := [_, _]) rfl (.ex .nil) (.one 0 rfl .nil) Tryz.func57 rfl hfnd rfl ?_; rintro _ _ ⟨rfl, rfl⟩)))
       (refine Zap (H' := fun _ => True) 8 (by decide +kernel) rfl Za0 (fun _ _ _ => trivial) ?_)
       ((apply WO_t (H := fun _ => True); (first | (apply Zcq; first | exact Zcm rfl)); exact rfl))
       (refine Zap (H' := fun _ => True) 9 (by decide +kernel) rfl Za0 (fun _ _ _ => trivial) ?_)
       ((apply WO_t (H := fun _ => True); (first | (apply Zat; first | exact Zaf rfl rfl rfl)); exact rfl))
       (refine Zap (H' := feet []) 10 (by decide +kernel) rfl Za0 (fun h => absurd h (by decide)) ?_)
       (first | (apply Zav; first | refine WO_store1 (k := 1) (l0 := []) rfl rfl rfl ?_))
       refine Zb9 (by decide +kernel) ?_
       exact Zbp () trivial (Zae (by repeat (first | exact Zai | refine Zad rfl ?_)) (List.Sublist.refl _))
     (repeat' (first | refine Za1 ?_ | refine Za6 ?_ | (apply Za9; (first | exact Za3 rfl | (apply Zah; first | exact Zbf rfl rfl)); exact rfl)))
     refine ⟨n + 1, by omega, by omega, ?_⟩
     have e1 : r.roundP y = { y with score := y.score.resP (Ex.lookF r.n0) (Ex.lookF r.n3), tieNo := (Ex.lookF r.n2 y.tie).getD 0 } := by unfold RulesD.roundP; rw [if_neg ht]
     have e2 : (lo2 || !r.roundPok y) = ((lo2 || !y.score.okP (Ex.lookF r.n0) (Ex.lookF r.n3)) || (Ex.lookF r.n2 y.tie).isNone) := by
       unfold RulesD.roundPok
       rw [decide_eq_false ht, Bool.false_or, Bool.not_and, Bool.or_assoc]
       cases Ex.lookF r.n2 y.tie <;> rfl
     rw [eL, eB, e1, ← hset, e2, putC_one hO12, List.set_set]
     refine (Leads_perm (List.Perm.swap _ _ _)).trans ?_
     refine Leads_row_vec (k := 0) (sz := 13) (n := r.rounds.length) (c := c2) rfl rfl ?_ (by decide) hcm ?_
     · rw [List.length_set, hR1l, hLl]
     exact Zae (by repeat (first | exact Zai | refine Zad rfl ?_)) (List.Sublist.refl _)
 · have hn2 : n = r.rounds.length := by omega
   subst hn2
   rw [List.take_length, List.drop_length, List.append_nil]
   have hlost : (lo1 || !r.rounds.all r.roundPok) = !r.allOk := by rw [← hlo1, ← RulesD.allPok_eq, Bool.not_and]
   rw [hlost]
   (repeat' (first | (apply cuts_at 40; refine Stop.out ?_) | refine Za8 ?_ | refine Za1 ?_ | refine Za6 ?_ | (apply Za9; ((apply Zah; exact Zau rfl rfl)); exact rfl) | refine Zbk ?_ | (refine Zac rfl (fun hb => ?_) (fun hb => ?_) <;> (repeat (first | replace hb := Zam hb | replace hb := Zan hb)) <;> (try (exfalso; omega)))))
   constructor
   refine Zbn (Leads_fcell (j := 0) (k := 1) (i := 5) (E := eRound k) (fs := roundV k) (r.rounds.map r.roundP) rfl rfl rfl (List.length_map ..) rfl rfl (hby := by show _ * 136 ≤ _; omega)) ?_
   cases hok : r.allOk
   · (repeat' (first | refine Za8 ?_ | refine Za1 ?_ | refine Za6 ?_ | (apply Za9; (first | exact Za4 rfl | (apply Za7; exact Zab (k := 0) rfl rfl rfl rfl) | (apply g_build; exact WT_build2 rfl rfl (by repeat (exact PartsO.nil)))); exact rfl) | refine Zaq ?_ | refine Zb4 rfl ?_ | (apply Zaj; exact rfl; (apply Zav; refine Zal (k := 1) (l0 := []) rfl rfl rfl ?_))))
     (refine ⟨.inr rfl, retw (loc' := []) (by first | exact ret2 rfl (.cella (k := 1) rfl rfl rfl rfl inferInstance rfl) (.tmp rfl) (List.nil_sublist _) ⟨rfl, rfl⟩) ?_ ⟨rfl, rfl⟩⟩)
     exact Ims.tup (.cons (im_zeroW k) (.cons (.refl _) .nil))
   · rw [← RulesD.resolvedP_eq r hok]
     (repeat' (first | refine Za8 ?_ | refine Za1 ?_ | refine Za6 ?_ | (apply Za9; (first | exact Za4 rfl | (apply Za7; first | exact Zab (k := 0) rfl rfl rfl rfl | exact Zb6 (k := 1) rfl rfl rfl)); exact rfl) | refine Zag ?_ | refine Zaq ?_ | refine Zb8 rfl ?_ | (apply Zaj; exact rfl; (apply Zav; refine Zal (k := 1) (l0 := []) rfl rfl rfl ?_))))
     (refine ⟨.inr rfl, retw (loc' := []) (by first | exact ret2 rfl (.cella (k := 1) rfl rfl rfl rfl inferInstance rfl) (.tmp rfl) (List.nil_sublist _) ⟨rfl, rfl⟩) ?_ ⟨rfl, rfl⟩⟩)
     exact Im.refl _
end Go.Proofs.YthldagplhklbnaaGreatDoor
