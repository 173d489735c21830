/- names.Resolve behind the maps. -/
import Derived.Test.YthldagplhklbnaaGreatDoorPart4
import Derived.Test.YthldagplhklbnaaGreatDoorPart3
namespace Go.Proofs.YthldagplhklbnaaGreatDoor
open Go Go.RowKit Go.Kx Go.Fr
set_option maxHeartbeats 4000000 in
set_option maxRecDepth 100000 in
theorem nres_rest (k : Nat) (r : RulesD) (hf : r.few = true) (M0 M2 M3 : List (List UInt8 × SP)) (h0 : ∀ s, mlook M0 s = (Ex.lookF r.n0 s).map (exI .i64)) (h2 : ∀ s, mlook M2 s = (Ex.lookF r.n2 s).map (exI .i64)) (h3 : ∀ s, mlook M3 s = (Ex.lookF r.n3 s).map (exI .i64)) (w0 : World) (F0 : Nat → Prop) (out : List Ent) (b1 b2 bl b4 b7 b17 b18 : Nat) :
   WP ⟨Tryz.prog, w0, F0, footX [Tab], out, 218, []⟩ (rights 13 (Tryz.f23.body.getD .skip)) (retP ⟨Tryz.prog, w0, F0, footX [Tab], out, 218, []⟩ Tryz.f23 (fun p loc => p = tup [rul k (if !r.allOk then (RulesD.zero, (140 : Int)) else (r.resolved, 0)).1, exI .i64 (if !r.allOk then (RulesD.zero, (140 : Int)) else (r.resolved, 0)).2] ∧ loc = []))
     [(1, ex (.pointer (some ⟨b1, 0, none⟩))), (2, ex (.pointer (some ⟨b2, 0, none⟩))), (4, fpx b4 [fmap M0]), (6, fmap M2), (7, fpx b7 [fmap M3]), (16, ex (.pointer (some ⟨bl, 0, none⟩))), (17, fpx b17 [ex (FIND bl)]), (18, fpx b18 [ex (EXPR b17 b4 b7 b18)])] [row bl 4 1 [exB false], row b2 28 9 [ex (.string .empty), ex (.slice none 0 0), ex (.slice none 0 0), ex (.slice none 0 0), ex (.slice none 0 0), ex (.slice none 0 0), ex (.slice none 0 0), ex (.slice none 0 0), ex (.int .i64 0)], row b1 28 9 (rulesV k r)] := by
 obtain ⟨hf1, hf2, hf3, hf4, hf5, hf6, hf7, hf8, hf9⟩ := few_facts hf
 unfold rulesV
 (repeat' (first | (apply cut_at 17; refine Stop.out ?_) | refine Za8 ?_ | refine Za1 ?_ | refine Za6 ?_ | (apply Za9; ((apply Za7; exact Zb6 (k := 2) rfl rfl rfl)); exact rfl) | (apply Zaj; exact rfl; (apply Zav; refine Zal (k := 1) (l0 := []) rfl rfl rfl ?_))))
 refine ⟨WP_cutR 17 (fun s : (Option Addr × Nat) × (Option Addr × Nat) => ([(2, ex (.pointer (some ⟨b2, 0, none⟩))), (4, fpx b4 [fmap M0]), (6, fmap M2), (7, fpx b7 [fmap M3]), (16, ex (.pointer (some ⟨bl, 0, none⟩))), (17, fpx b17 [ex (FIND bl)]), (18, fpx b18 [ex (EXPR b17 b4 b7 b18)])], [vec (.slice s.1.1 r.ties.length s.1.2) 40 2 r.ties.length (r.ties.flatMap tieV), vec (.slice s.2.1 r.rounds.length s.2.2) 48 13 r.rounds.length (r.rounds.flatMap (roundV k)), row bl 4 1 [exB false], row b2 28 9 [exT r.name, isl eCrit r.crits, isl eItem r.bonus, isl eItem r.malus, ex (.slice s.1.1 r.ties.length s.1.2), ex (.slice s.2.1 r.rounds.length s.2.2), isl eI r.prizes, isl eI r.points, exI .i64 r.best]])) (fun _ => True) ?_ fun s _ => ?_⟩
 · skip
   (refine Zbx 6 rfl ?_)
   (try (first | (refine Zbw (k := 0) rfl ?_; intro oa1 c1 hv; subst hv) | (refine Zbw (k := 1) rfl ?_; intro oa2 c2 hv; subst hv)))
   (apply Za2 0 rfl (by decide +kernel) rfl (by repeat (first | exact Za5)) Za0; (first | (apply Zat; first | exact Zaf rfl rfl rfl)); exact rfl)
   (try (first | (refine Zbw (k := 0) rfl ?_; intro oa1 c1 hv; subst hv) | (refine Zbw (k := 1) rfl ?_; intro oa2 c2 hv; subst hv)))
   (apply Zb0 1 rfl (by decide +kernel) rfl (by decide +kernel) (by repeat (exact Za5)) Za0; ((apply Za7; exact Zab (k := 2) rfl rfl rfl rfl)); exact rfl)
   (try (first | (refine Zbw (k := 0) rfl ?_; intro oa1 c1 hv; subst hv) | (refine Zbw (k := 1) rfl ?_; intro oa2 c2 hv; subst hv)))
   (apply Za2 3 rfl (by decide +kernel) rfl (by repeat (first | exact Za5)) Za0; (first | (apply Zat; first | exact Zaf rfl rfl rfl)); exact rfl)
   (try (first | (refine Zbw (k := 0) rfl ?_; intro oa1 c1 hv; subst hv) | (refine Zbw (k := 1) rfl ?_; intro oa2 c2 hv; subst hv)))
   (refine Zcg (H2 := fun _ => True) 2 4 (by decide +kernel) rfl Za0 (fun _ _ h => h) rfl Za0 (fun _ _ _ => trivial) ?_ ?_)
   ·
     ((apply Zao; first | (refine Zaw Tryz.func60 rfl (cloneTie_own _) rfl ?_; rintro _ _ ⟨v1, rfl, rfl⟩) | (refine Zaw Tryz.func61 rfl (cloneRound_own k _) rfl ?_; rintro _ _ ⟨v2, rfl, rfl⟩)))
     (try (first | (refine Zbw (k := 0) rfl ?_; intro oa1 c1 hv; subst hv) | (refine Zbw (k := 1) rfl ?_; intro oa2 c2 hv; subst hv)))
     (refine Zcg (H1 := fun _ => True) (H2 := fun _ => True) 4 6 (by decide +kernel) rfl Za0 (fun _ _ _ => trivial) rfl Za0 (fun _ _ _ => trivial) ?_ ?_)
     ·
       ((apply WO_t (H := fun _ => True); (first | (apply Za7; first | exact Zab (k := 3) rfl rfl rfl rfl)); exact rfl))
       (try (first | (refine Zbw (k := 0) rfl ?_; intro oa1 c1 hv; subst hv) | (refine Zbw (k := 1) rfl ?_; intro oa2 c2 hv; subst hv)))
       (refine Zcg (H2 := fun _ => True) 5 6 (by decide +kernel) rfl Za0 (fun _ _ h => h) rfl Za0 (fun _ _ _ => trivial) ?_ ?_)
       ·
         ((apply Zao; first | (refine Zaw Tryz.func60 rfl (cloneTie_own _) rfl ?_; rintro _ _ ⟨v1, rfl, rfl⟩) | (refine Zaw Tryz.func61 rfl (cloneRound_own k _) rfl ?_; rintro _ _ ⟨v2, rfl, rfl⟩)))
         (try (first | (refine Zbw (k := 0) rfl ?_; intro oa1 c1 hv; subst hv) | (refine Zbw (k := 1) rfl ?_; intro oa2 c2 hv; subst hv)))
         (refine Zap (H' := fun _ => True) 6 (by decide +kernel) rfl Za0 (fun _ _ _ => trivial) ?_)
         ((apply WO_t (H := fun _ => True); (first | (apply Zat; first | exact Zaf rfl rfl rfl)); exact rfl))
         (try (first | (refine Zbw (k := 0) rfl ?_; intro oa1 c1 hv; subst hv) | (refine Zbw (k := 1) rfl ?_; intro oa2 c2 hv; subst hv)))
         (refine Zap (H' := feet []) 7 (by decide +kernel) rfl Za0 (fun h => absurd h (by decide)) ?_)
         (first | (apply Zav; first | refine Zal (k := 3) (l0 := []) rfl rfl rfl ?_))
         (try (first | (refine Zbw (k := 0) rfl ?_; intro oa1 c1 hv; subst hv) | (refine Zbw (k := 1) rfl ?_; intro oa2 c2 hv; subst hv)))
         (refine Zap (H' := fun _ => True) 8 (by decide +kernel) rfl Za0 (fun _ _ _ => trivial) ?_)
         ((apply WO_t (H := fun _ => True); (first | (apply Zat; first | exact Zaf rfl rfl rfl)); exact rfl))
         (try (first | (refine Zbw (k := 0) rfl ?_; intro oa1 c1 hv; subst hv) | (refine Zbw (k := 1) rfl ?_; intro oa2 c2 hv; subst hv)))
         (refine Zap (H' := feet []) 9 (by decide +kernel) rfl Za0 (fun h => absurd h (by decide)) ?_)
         (first | (apply Zav; first | refine Zal (k := 3) (l0 := []) rfl rfl rfl ?_))
         (try (first | (refine Zbw (k := 0) rfl ?_; intro oa1 c1 hv; subst hv) | (refine Zbw (k := 1) rfl ?_; intro oa2 c2 hv; subst hv)))
         refine Zb9 (by decide +kernel) ?_
         (first | exact Zbp ((_, _), (_, _)) trivial (Zae (by repeat (first | exact Zai | refine Zad rfl ?_)) (.cons_cons _ (.cons_cons _ (.cons_cons _ (.cons_cons _ (.cons _ .slnil)))))) | exact Zbp ((_, _), (_, _)) trivial ((Leads_perm (List.Perm.swap _ _ _)).trans (Zae (by repeat (first | exact Zai | refine Zad rfl ?_)) (.cons_cons _ (.cons_cons _ (.cons_cons _ (.cons_cons _ (.cons _ .slnil))))))))
       ·
         ((apply WO_t (H := fun _ => True); (first | (apply Zat; first | exact Zaf rfl rfl rfl)); exact rfl))
         (try (first | (refine Zbw (k := 0) rfl ?_; intro oa1 c1 hv; subst hv) | (refine Zbw (k := 1) rfl ?_; intro oa2 c2 hv; subst hv)))
         (refine Zap 5 (by decide +kernel) rfl Za0 (fun _ _ h => h) ?_)
         ((apply Zao; first | (refine Zaw Tryz.func60 rfl (cloneTie_own _) rfl ?_; rintro _ _ ⟨v1, rfl, rfl⟩) | (refine Zaw Tryz.func61 rfl (cloneRound_own k _) rfl ?_; rintro _ _ ⟨v2, rfl, rfl⟩)))
         (try (first | (refine Zbw (k := 0) rfl ?_; intro oa1 c1 hv; subst hv) | (refine Zbw (k := 1) rfl ?_; intro oa2 c2 hv; subst hv)))
         (refine Zap (H' := feet []) 7 (by decide +kernel) rfl Za0 (fun h => absurd h (by decide)) ?_)
         (first | (apply Zav; first | refine Zal (k := 3) (l0 := []) rfl rfl rfl ?_))
         (try (first | (refine Zbw (k := 0) rfl ?_; intro oa1 c1 hv; subst hv) | (refine Zbw (k := 1) rfl ?_; intro oa2 c2 hv; subst hv)))
         (refine Zap (H' := fun _ => True) 8 (by decide +kernel) rfl Za0 (fun _ _ _ => trivial) ?_)
         ((apply WO_t (H := fun _ => True); (first | (apply Zat; first | exact Zaf rfl rfl rfl)); exact rfl))
         (try (first | (refine Zbw (k := 0) rfl ?_; intro oa1 c1 hv; subst hv) | (refine Zbw (k := 1) rfl ?_; intro oa2 c2 hv; subst hv)))
         (refine Zap (H' := feet []) 9 (by decide +kernel) rfl Za0 (fun h => absurd h (by decide)) ?_)
         (first | (apply Zav; first | refine Zal (k := 3) (l0 := []) rfl rfl rfl ?_))
         (try (first | (refine Zbw (k := 0) rfl ?_; intro oa1 c1 hv; subst hv) | (refine Zbw (k := 1) rfl ?_; intro oa2 c2 hv; subst hv)))
         refine Zb9 (by decide +kernel) ?_
         (first | exact Zbp ((_, _), (_, _)) trivial (Zae (by repeat (first | exact Zai | refine Zad rfl ?_)) (.cons_cons _ (.cons_cons _ (.cons_cons _ (.cons_cons _ (.cons _ .slnil)))))) | exact Zbp ((_, _), (_, _)) trivial ((Leads_perm (List.Perm.swap _ _ _)).trans (Zae (by repeat (first | exact Zai | refine Zad rfl ?_)) (.cons_cons _ (.cons_cons _ (.cons_cons _ (.cons_cons _ (.cons _ .slnil))))))))
     ·
       ((apply WO_t (H := fun _ => True); (first | (apply Zat; first | exact Zaf rfl rfl rfl)); exact rfl))
       (try (first | (refine Zbw (k := 0) rfl ?_; intro oa1 c1 hv; subst hv) | (refine Zbw (k := 1) rfl ?_; intro oa2 c2 hv; subst hv)))
       (refine Zap (H' := fun _ => True) 4 (by decide +kernel) rfl Za0 (fun _ _ _ => trivial) ?_)
       ((apply WO_t (H := fun _ => True); (first | (apply Za7; first | exact Zab (k := 3) rfl rfl rfl rfl)); exact rfl))
       (try (first | (refine Zbw (k := 0) rfl ?_; intro oa1 c1 hv; subst hv) | (refine Zbw (k := 1) rfl ?_; intro oa2 c2 hv; subst hv)))
       (refine Zap 5 (by decide +kernel) rfl Za0 (fun _ _ h => h) ?_)
       ((apply Zao; first | (refine Zaw Tryz.func60 rfl (cloneTie_own _) rfl ?_; rintro _ _ ⟨v1, rfl, rfl⟩) | (refine Zaw Tryz.func61 rfl (cloneRound_own k _) rfl ?_; rintro _ _ ⟨v2, rfl, rfl⟩)))
       (try (first | (refine Zbw (k := 0) rfl ?_; intro oa1 c1 hv; subst hv) | (refine Zbw (k := 1) rfl ?_; intro oa2 c2 hv; subst hv)))
       (refine Zap (H' := feet []) 7 (by decide +kernel) rfl Za0 (fun h => absurd h (by decide)) ?_)
       (first | (apply Zav; first | refine Zal (k := 3) (l0 := []) rfl rfl rfl ?_))
       (try (first | (refine Zbw (k := 0) rfl ?_; intro oa1 c1 hv; subst hv) | (refine Zbw (k := 1) rfl ?_; intro oa2 c2 hv; subst hv)))
       (refine Zap (H' := fun _ => True) 8 (by decide +kernel) rfl Za0 (fun _ _ _ => trivial) ?_)
       ((apply WO_t (H := fun _ => True); (first | (apply Zat; first | exact Zaf rfl rfl rfl)); exact rfl))
       (try (first | (refine Zbw (k := 0) rfl ?_; intro oa1 c1 hv; subst hv) | (refine Zbw (k := 1) rfl ?_; intro oa2 c2 hv; subst hv)))
       (refine Zap (H' := feet []) 9 (by decide +kernel) rfl Za0 (fun h => absurd h (by decide)) ?_)
       (first | (apply Zav; first | refine Zal (k := 3) (l0 := []) rfl rfl rfl ?_))
       (try (first | (refine Zbw (k := 0) rfl ?_; intro oa1 c1 hv; subst hv) | (refine Zbw (k := 1) rfl ?_; intro oa2 c2 hv; subst hv)))
       refine Zb9 (by decide +kernel) ?_
       (first | exact Zbp ((_, _), (_, _)) trivial (Zae (by repeat (first | exact Zai | refine Zad rfl ?_)) (.cons_cons _ (.cons_cons _ (.cons_cons _ (.cons_cons _ (.cons _ .slnil)))))) | exact Zbp ((_, _), (_, _)) trivial ((Leads_perm (List.Perm.swap _ _ _)).trans (Zae (by repeat (first | exact Zai | refine Zad rfl ?_)) (.cons_cons _ (.cons_cons _ (.cons_cons _ (.cons_cons _ (.cons _ .slnil))))))))
   ·
     ((apply WO_t (H := fun _ => True); (first | (apply Za7; first | exact Zab (k := 2) rfl rfl rfl rfl)); exact rfl))
     (try (first | (refine Zbw (k := 0) rfl ?_; intro oa1 c1 hv; subst hv) | (refine Zbw (k := 1) rfl ?_; intro oa2 c2 hv; subst hv)))
     (refine Zap 2 (by decide +kernel) rfl Za0 (fun _ _ h => h) ?_)
     ((apply Zao; first | (refine Zaw Tryz.func60 rfl (cloneTie_own _) rfl ?_; rintro _ _ ⟨v1, rfl, rfl⟩) | (refine Zaw Tryz.func61 rfl (cloneRound_own k _) rfl ?_; rintro _ _ ⟨v2, rfl, rfl⟩)))
     (try (first | (refine Zbw (k := 0) rfl ?_; intro oa1 c1 hv; subst hv) | (refine Zbw (k := 1) rfl ?_; intro oa2 c2 hv; subst hv)))
     (refine Zcg (H2 := fun _ => True) 5 6 (by decide +kernel) rfl Za0 (fun _ _ h => h) rfl Za0 (fun _ _ _ => trivial) ?_ ?_)
     ·
       ((apply Zao; first | (refine Zaw Tryz.func60 rfl (cloneTie_own _) rfl ?_; rintro _ _ ⟨v1, rfl, rfl⟩) | (refine Zaw Tryz.func61 rfl (cloneRound_own k _) rfl ?_; rintro _ _ ⟨v2, rfl, rfl⟩)))
       (try (first | (refine Zbw (k := 0) rfl ?_; intro oa1 c1 hv; subst hv) | (refine Zbw (k := 1) rfl ?_; intro oa2 c2 hv; subst hv)))
       (refine Zap (H' := fun _ => True) 6 (by decide +kernel) rfl Za0 (fun _ _ _ => trivial) ?_)
       ((apply WO_t (H := fun _ => True); (first | (apply Zat; first | exact Zaf rfl rfl rfl)); exact rfl))
       (try (first | (refine Zbw (k := 0) rfl ?_; intro oa1 c1 hv; subst hv) | (refine Zbw (k := 1) rfl ?_; intro oa2 c2 hv; subst hv)))
       (refine Zap (H' := feet []) 7 (by decide +kernel) rfl Za0 (fun h => absurd h (by decide)) ?_)
       (first | (apply Zav; first | refine Zal (k := 3) (l0 := []) rfl rfl rfl ?_))
       (try (first | (refine Zbw (k := 0) rfl ?_; intro oa1 c1 hv; subst hv) | (refine Zbw (k := 1) rfl ?_; intro oa2 c2 hv; subst hv)))
       (refine Zap (H' := fun _ => True) 8 (by decide +kernel) rfl Za0 (fun _ _ _ => trivial) ?_)
       ((apply WO_t (H := fun _ => True); (first | (apply Zat; first | exact Zaf rfl rfl rfl)); exact rfl))
       (try (first | (refine Zbw (k := 0) rfl ?_; intro oa1 c1 hv; subst hv) | (refine Zbw (k := 1) rfl ?_; intro oa2 c2 hv; subst hv)))
       (refine Zap (H' := feet []) 9 (by decide +kernel) rfl Za0 (fun h => absurd h (by decide)) ?_)
       (first | (apply Zav; first | refine Zal (k := 3) (l0 := []) rfl rfl rfl ?_))
       (try (first | (refine Zbw (k := 0) rfl ?_; intro oa1 c1 hv; subst hv) | (refine Zbw (k := 1) rfl ?_; intro oa2 c2 hv; subst hv)))
       refine Zb9 (by decide +kernel) ?_
       (first | exact Zbp ((_, _), (_, _)) trivial (Zae (by repeat (first | exact Zai | refine Zad rfl ?_)) (.cons_cons _ (.cons_cons _ (.cons_cons _ (.cons_cons _ (.cons _ .slnil)))))) | exact Zbp ((_, _), (_, _)) trivial ((Leads_perm (List.Perm.swap _ _ _)).trans (Zae (by repeat (first | exact Zai | refine Zad rfl ?_)) (.cons_cons _ (.cons_cons _ (.cons_cons _ (.cons_cons _ (.cons _ .slnil))))))))
     ·
       ((apply WO_t (H := fun _ => True); (first | (apply Zat; first | exact Zaf rfl rfl rfl)); exact rfl))
       (try (first | (refine Zbw (k := 0) rfl ?_; intro oa1 c1 hv; subst hv) | (refine Zbw (k := 1) rfl ?_; intro oa2 c2 hv; subst hv)))
       (refine Zap 5 (by decide +kernel) rfl Za0 (fun _ _ h => h) ?_)
       ((apply Zao; first | (refine Zaw Tryz.func60 rfl (cloneTie_own _) rfl ?_; rintro _ _ ⟨v1, rfl, rfl⟩) | (refine Zaw Tryz.func61 rfl (cloneRound_own k _) rfl ?_; rintro _ _ ⟨v2, rfl, rfl⟩)))
       (try (first | (refine Zbw (k := 0) rfl ?_; intro oa1 c1 hv; subst hv) | (refine Zbw (k := 1) rfl ?_; intro oa2 c2 hv; subst hv)))
       (refine Zap (H' := feet []) 7 (by decide +kernel) rfl Za0 (fun h => absurd h (by decide)) ?_)
       (first | (apply Zav; first | refine Zal (k := 3) (l0 := []) rfl rfl rfl ?_))
       (try (first | (refine Zbw (k := 0) rfl ?_; intro oa1 c1 hv; subst hv) | (refine Zbw (k := 1) rfl ?_; intro oa2 c2 hv; subst hv)))
       (refine Zap (H' := fun _ => True) 8 (by decide +kernel) rfl Za0 (fun _ _ _ => trivial) ?_)
       ((apply WO_t (H := fun _ => True); (first | (apply Zat; first | exact Zaf rfl rfl rfl)); exact rfl))
       (try (first | (refine Zbw (k := 0) rfl ?_; intro oa1 c1 hv; subst hv) | (refine Zbw (k := 1) rfl ?_; intro oa2 c2 hv; subst hv)))
       (refine Zap (H' := feet []) 9 (by decide +kernel) rfl Za0 (fun h => absurd h (by decide)) ?_)
       (first | (apply Zav; first | refine Zal (k := 3) (l0 := []) rfl rfl rfl ?_))
       (try (first | (refine Zbw (k := 0) rfl ?_; intro oa1 c1 hv; subst hv) | (refine Zbw (k := 1) rfl ?_; intro oa2 c2 hv; subst hv)))
       refine Zb9 (by decide +kernel) ?_
       (first | exact Zbp ((_, _), (_, _)) trivial (Zae (by repeat (first | exact Zai | refine Zad rfl ?_)) (.cons_cons _ (.cons_cons _ (.cons_cons _ (.cons_cons _ (.cons _ .slnil)))))) | exact Zbp ((_, _), (_, _)) trivial ((Leads_perm (List.Perm.swap _ _ _)).trans (Zae (by repeat (first | exact Zai | refine Zad rfl ?_)) (.cons_cons _ (.cons_cons _ (.cons_cons _ (.cons_cons _ (.cons _ .slnil))))))))
 obtain ⟨⟨oa1, c1⟩, oa2, c2⟩ := s
 simp only
 (repeat' (first | refine Za8 ?_ | refine Za1 ?_ | refine Za6 ?_ | (apply Za9; (first | exact Za3 rfl | (apply Za7; exact Zab (k := 3) rfl rfl rfl rfl) | (apply Zat; exact Zaf rfl rfl rfl) | (apply Zax; exact WT_lenv rfl rfl)); exact rfl) | refine Zaa ?_))
 refine Zbv (fun n : Nat => ([(2, ex (.pointer (some ⟨b2, 0, none⟩))), (4, fpx b4 [fmap M0]), (6, fmap M2), (7, fpx b7 [fmap M3]), (16, ex (.pointer (some ⟨bl, 0, none⟩))), (17, fpx b17 [ex (FIND bl)]), (18, fpx b18 [ex (EXPR b17 b4 b7 b18)]), (115, exI .i64 (r.ties.length : Int)), (116, exI .i64 (n : Int))], [vec (.slice oa1 r.ties.length c1) 40 2 r.ties.length (((r.ties.take n).map r.tieP ++ r.ties.drop n).flatMap tieV), vec (.slice oa2 r.rounds.length c2) 48 13 r.rounds.length (r.rounds.flatMap (roundV k)), row bl 4 1 [exB (!(r.ties.take n).all r.tiePok)], row b2 28 9 [exT r.name, isl eCrit r.crits, isl eItem r.bonus, isl eItem r.malus, ex (.slice oa1 r.ties.length c1), ex (.slice oa2 r.rounds.length c2), isl eI r.prizes, isl eI r.points, exI .i64 r.best]])) (fun n => n ≤ r.ties.length) (fun n => r.ties.length - n) 0 ?_ (Nat.zero_le _) fun n hn => ?_
 · simp only [List.take_zero, List.map_nil, List.drop_zero, List.nil_append, List.all_nil, Bool.not_true]
   exact Zae (by repeat (first | exact Zai | refine Zad rfl ?_)) (List.Sublist.refl _)
 by_cases hlt : n < r.ties.length
 · have eL := upd_succ r.ties r.tieP n hlt
   have hLl := upd_len r.ties r.tieP n hlt
   have hLi := upd_at r.ties r.tieP n hlt
   have eA : (!(r.ties.take (n + 1)).all r.tiePok) = (!(r.ties.take n).all r.tiePok || !r.ties[n].keys.all r.keyPok) := by
     rw [all_succ' hlt, Bool.not_and]; rfl
   generalize ((r.ties.take n).map r.tieP ++ r.ties.drop n) = L at eL hLl hLi ⊢
   generalize (!(r.ties.take n).all r.tiePok) = lo at eA ⊢
   have hnL : n < L.length := by omega
   have hkl := hf8 _ (List.getElem_mem hlt)
   have hTl : (L.flatMap tieV).length = L.length * 2 := length_flat (fs := tieV) (s := 2) (fun _ => rfl) L
   have hT1 : (L.flatMap tieV)[0 + n * 2 + 1]? = some (isl eKey r.ties[n].keys) := by
     rw [Nat.zero_add, flat_at (fs := tieV) (s := 2) (fun _ => rfl) L n hnL 1 (by decide), hLi hnL]; rfl
   refine WP_vec3 (k := 0) rfl (by omega) fun bT c1' hv hnc hcm => ?_
   cases hv
   (repeat' (first | (apply at_store; refine WPL_vsl (k := 0) rfl ?_; intro oa3 c3 hv; subst hv) | (apply cut_at 23; refine Stop.out ?_) | refine Za8 ?_ | refine Za1 ?_ | refine Za6 ?_ | (apply Za9; (first | exact Za3 rfl | exact Za4 rfl | (apply Za7; first | exact Zab (k := 3) rfl rfl rfl rfl | exact Zab (k := 0) rfl rfl (by assumption) rfl) | (apply Zat; exact Zaf rfl rfl rfl) | (apply Zah; exact Zau rfl rfl) | (apply Zak; exact Zc0 rfl rfl rfl) | (apply Zcq; exact Zcm rfl)); exact rfl) | refine Zaa ?_ | refine Zag ?_ | (apply Zaj; exact rfl; first | (apply Zao; (refine Zaw Tryz.func62 rfl (cloneKey_own _) rfl ?_; rintro _ _ ⟨v3, rfl, rfl⟩)) | (apply Zav; refine WO_store1 (k := 1) (l0 := []) rfl rfl rfl ?_)) | (refine Zac rfl (fun hb => ?_) (fun hb => ?_) <;> (repeat (first | replace hb := Zam hb | replace hb := Zan hb)) <;> (try (exfalso; omega)))))
   have hPS1 : ((L.flatMap tieV).set (0 + n * 2 + 1) (ex (.slice oa3 r.ties[n].keys.length c3)))[0 + n * 2 + 1]? = some (ex (.slice oa3 r.ties[n].keys.length c3)) := List.getElem?_set_self (by omega)
   have hPS2 : ∀ t : TieD, ((tieV L[n]).set 1 (isl eKey t.keys) = tieV t) → ((L.flatMap tieV).set (0 + n * 2 + 1) (ex (.slice oa3 r.ties[n].keys.length c3))).set (0 + n * 2 + 1) (isl eKey t.keys) = (L.set n t).flatMap tieV := fun t ht => by
     rw [List.set_set, Nat.zero_add]
     exact flat_set1 (fs := tieV) (s := 2) (fun _ => rfl) L n hnL 1 (by decide) _ _ ht
   generalize (L.flatMap tieV).set (0 + n * 2 + 1) (ex (.slice oa3 r.ties[n].keys.length c3)) = PS at hPS1 hPS2 ⊢
   constructor
   (repeat' (first | refine Za8 ?_ | refine Za1 ?_ | refine Za6 ?_ | (apply Za9; (first | exact Za3 rfl | (apply Za7; exact Zab (k := 1) rfl rfl (by assumption) rfl) | (apply Zat; exact Zaf rfl rfl rfl) | (apply Zax; exact WT_lenv rfl rfl) | (apply Zcq; exact Zcm rfl)); exact rfl) | refine Zaa ?_))
   refine Zbv (fun q : Nat => ([(2, ex (.pointer (some ⟨b2, 0, none⟩))), (4, fpx b4 [fmap M0]), (6, fmap M2), (7, fpx b7 [fmap M3]), (16, ex (.pointer (some ⟨bl, 0, none⟩))), (17, fpx b17 [ex (FIND bl)]), (18, fpx b18 [ex (EXPR b17 b4 b7 b18)]), (20, ex (.pointer (some ⟨bT, 0 + n * 2, none⟩))), (115, exI .i64 (r.ties.length : Int)), (116, exI .i64 (n : Int)), (135, exI .i64 (r.ties[n].keys.length : Int)), (136, exI .i64 (q : Int))], [vec (.slice oa3 r.ties[n].keys.length c3) 42 3 r.ties[n].keys.length (((r.ties[n].keys.take q).map r.keyP ++ r.ties[n].keys.drop q).flatMap keyV), row bT 40 (c1 * 2) PS, vec (.slice oa2 r.rounds.length c2) 48 13 r.rounds.length (r.rounds.flatMap (roundV k)), row bl 4 1 [exB (lo || !(r.ties[n].keys.take q).all r.keyPok)], row b2 28 9 [exT r.name, isl eCrit r.crits, isl eItem r.bonus, isl eItem r.malus, ex (.slice (some ⟨bT, 0, none⟩) r.ties.length c1), ex (.slice oa2 r.rounds.length c2), isl eI r.prizes, isl eI r.points, exI .i64 r.best]])) (fun q => q ≤ r.ties[n].keys.length) (fun q => r.ties[n].keys.length - q) 0 ?_ (Nat.zero_le _) fun q hq => ?_
   · simp only [List.take_zero, List.map_nil, List.drop_zero, List.nil_append, List.all_nil, Bool.not_true, Bool.or_false]
     exact Zae (by repeat (first | exact Zai | refine Zad rfl ?_)) (List.Sublist.refl _)
   by_cases hlq : q < r.ties[n].keys.length
   · have eK := upd_succ r.ties[n].keys r.keyP q hlq
     have hKl := upd_len r.ties[n].keys r.keyP q hlq
     have hKi := upd_at r.ties[n].keys r.keyP q hlq
     have eB : (lo || !(r.ties[n].keys.take (q + 1)).all r.keyPok) = ((lo || !(r.ties[n].keys.take q).all r.keyPok) || !r.keyPok r.ties[n].keys[q]) := by
       rw [all_succ' hlq, Bool.not_and, Bool.or_assoc]
     generalize ((r.ties[n].keys.take q).map r.keyP ++ r.ties[n].keys.drop q) = K at eK hKl hKi ⊢
     generalize (lo || !(r.ties[n].keys.take q).all r.keyPok) = lo2 at eB ⊢
     have hqK : q < K.length := by omega
     have hKi := hKi hqK
     generalize hkey : r.ties[n].keys[q] = key at eK eB hKi
     have hKn : (K.flatMap keyV).length = K.length * 3 := length_flat (fs := keyV) (s := 3) (fun _ => rfl) K
     have hK0 : (K.flatMap keyV)[0 + q * 3 + 0]? = some (exI .i64 key.kind) := by
       rw [Nat.zero_add, flat_at (fs := keyV) (s := 3) (fun _ => rfl) K q hqK 0 (by decide), hKi]; rfl
     have hK1 : (K.flatMap keyV)[0 + q * 3 + 1]? = some (exT key.name) := by
       rw [Nat.zero_add, flat_at (fs := keyV) (s := 3) (fun _ => rfl) K q hqK 1 (by decide), hKi]; rfl
     have hKset : ∀ m : Int, (K.flatMap keyV).set (0 + q * 3 + 2) (exI .i64 m) = (K.set q { key with n := m }).flatMap keyV := fun m => by
       rw [Nat.zero_add]
       exact flat_set1 (fs := keyV) (s := 3) (fun _ => rfl) K q hqK 2 (by decide) _ _ (by rw [hKi]; rfl)
     refine WP_vec3 (k := 0) rfl (by omega) fun bK c3' hv hnc3 hcm3 => ?_
     cases hv
     by_cases hk1 : key.kind = 1
     · rw [hk1] at hK0
       (repeat' (first | (apply cut_at 26; refine Stop.out ?_) | refine Za8 ?_ | refine Za1 ?_ | refine Za6 ?_ | (apply Za9; (first | exact Za3 rfl | exact Za4 rfl | (apply Zah; exact Zau rfl rfl)); exact rfl) | refine Zaa ?_ | refine Zag ?_ | (refine Zac rfl (fun hb => ?_) (fun hb => ?_) <;> (repeat (first | replace hb := Zam hb | replace hb := Zan hb)) <;> (try (exfalso; omega)))))
       all_goals (try (exfalso; omega))
       refine ⟨WP_cutR 26 (fun _ : Unit => ([(2, ex (.pointer (some ⟨b2, 0, none⟩))), (4, fpx b4 [fmap M0]), (6, fmap M2), (7, fpx b7 [fmap M3]), (16, ex (.pointer (some ⟨bl, 0, none⟩))), (17, fpx b17 [ex (FIND bl)]), (18, fpx b18 [ex (EXPR b17 b4 b7 b18)]), (20, ex (.pointer (some ⟨bT, 0 + n * 2, none⟩))), (115, exI .i64 (r.ties.length : Int)), (116, exI .i64 (n : Int)), (135, exI .i64 (r.ties[n].keys.length : Int)), (136, exI .i64 (q : Int)), (21, exI .i64 (q : Int)), (22, fmap M0), (23, exB true)], [row bK 42 (c3 * 3) (K.flatMap keyV), row bT 40 (c1 * 2) PS, vec (.slice oa2 r.rounds.length c2) 48 13 r.rounds.length (r.rounds.flatMap (roundV k)), row bl 4 1 [exB lo2], row b2 28 9 [exT r.name, isl eCrit r.crits, isl eItem r.bonus, isl eItem r.malus, ex (.slice (some ⟨bT, 0, none⟩) r.ties.length c1), ex (.slice oa2 r.rounds.length c2), isl eI r.prizes, isl eI r.points, exI .i64 r.best]])) (fun _ => True) ?_ fun _ _ => ?_⟩
       · skip
         (refine Zbx 22 rfl ?_)
         (apply Zb0 1 rfl (by decide +kernel) rfl (by decide +kernel) (by repeat (first | exact Za5)) Za0; (first | (apply Za7; first | exact Zcf rfl rfl)); exact rfl)
         (apply Zb0 3 rfl (by decide +kernel) rfl (by decide +kernel) (by repeat (first | exact Za5)) Za0; (first | (apply Za7; first | exact Zcf rfl rfl)); exact rfl)
         (apply Za2 5 rfl (by decide +kernel) rfl (by repeat (first | exact Za5)) Za0; (first | exact Za3 rfl); exact rfl)
         (apply Za2 8 rfl (by decide +kernel) rfl (by repeat (first | exact Za5)) Za0; (first | exact Za3 rfl); exact rfl)
         (apply Za2 9 rfl (by decide +kernel) rfl (by repeat (first | exact Za5)) Za0; (first | (apply Zcq; first | exact Zcm rfl)); exact rfl)
         (apply Za2 10 rfl (by decide +kernel) rfl (by repeat (first | exact Za5)) Za0; (first | (apply Zat; first | exact Zaf rfl rfl rfl)); exact rfl)
         (apply Zb0 11 rfl (by decide +kernel) rfl (by decide +kernel) (by repeat (exact Za5)) Za0; ((apply Za7; exact Zab (k := 1) rfl rfl (by assumption) rfl)); exact rfl)
         (apply Za2 12 rfl (by decide +kernel) rfl (by repeat (first | exact Za5)) Za0; (first | exact Za3 rfl); exact rfl)
         (apply Za2 13 rfl (by decide +kernel) rfl (by repeat (first | exact Za5)) Za0; (first | (apply Zak; first | exact Zc0 rfl rfl rfl)); exact rfl)
         (apply Za2 14 rfl (by decide +kernel) rfl (by repeat (first | exact Za5)) Za0; (first | (apply Zat; first | exact Zaf rfl rfl rfl)); exact rfl)
         (apply Zb0 15 rfl (by decide +kernel) rfl (by decide +kernel) (by repeat (exact Za5)) Za0; ((apply Za7; exact Zab (k := 0) rfl rfl (by assumption) rfl)); exact rfl)
         (refine Zap 0 (by decide +kernel) rfl Za0 (fun _ _ h => h) ?_)
         (first | (apply g_mkmap; refine WO_mkmap (κ := Int) ?_; intro _))
         (refine WPY_three 2 4 6 (by decide +kernel) rfl Za0 (fun _ _ h => h) rfl Za0 (fun _ _ h => h) rfl Za0 (fun _ _ h => h) ?_ ?_ ?_)
         ·
           (first | (apply Zbo; refine Zbc (κ := Int) (k := 1) (j := 0) (l0 := _) (.inr rfl) rfl rfl rfl rfl rfl rfl ⟨_, rfl⟩ ?_ (hH := List.Sublist.refl _)))
           (refine Zcg 4 6 (by decide +kernel) rfl Za0 (fun _ _ h => h) rfl Za0 (fun _ _ h => h) ?_ ?_)
           ·
             (first | (apply Zbo; refine Zbc (κ := Int) (k := 2) (j := 0) (l0 := _) (.inr rfl) rfl rfl rfl rfl rfl rfl ⟨_, rfl⟩ ?_ (hH := List.Sublist.refl _)))
             (refine Zap 6 (by decide +kernel) rfl Za0 (fun _ _ h => h) ?_)
             (first | (apply Zbo; refine Zbc (κ := Int) (k := 5) (j := 0) (l0 := _) (.inr rfl) rfl rfl rfl rfl rfl rfl ⟨_, rfl⟩ ?_ (hH := List.Sublist.refl _)))
             (apply Za2 7 rfl (by decide +kernel) rfl (by repeat (first | exact Za5)) Za0; (first | exact Za3 rfl); exact rfl)
             (refine Zap 16 (by decide +kernel) rfl Za0 (fun _ _ h => h) ?_)
             (first | (apply WO_t; (apply Zc4; exact Zcl (κ := Int) (k := 1) (j := 0) rfl rfl rfl rfl rfl rfl ⟨_, rfl⟩ trivial); exact rfl))
             (apply Za2 17 rfl (by decide +kernel) rfl (by repeat (first | exact Za5)) Za0; (first | exact Za3 rfl); exact rfl)
             (apply Za2 18 rfl (by decide +kernel) rfl (by repeat (first | exact Za5)) Za0; (first | exact Zb5 rfl rfl); exact rfl)
             (apply Za2 19 rfl (by decide +kernel) rfl (by repeat (first | exact Za5)) Za0; (first | exact Zb5 rfl rfl); exact rfl)
             (apply Za2 20 rfl (by decide +kernel) rfl (by repeat (first | exact Za5)) Za0; (first | exact Za4 rfl); exact rfl)
             (apply Za2 21 rfl (by decide +kernel) rfl (by repeat (first | exact Za5)) Za0; (first | exact Za4 rfl); exact rfl)
             refine Zb9 (by decide +kernel) ?_
             exact Zbp () trivial (Zbd 1 (by repeat (first | exact Zai | refine Zad rfl ?_)) rfl)
           ·
             (first | (apply Zbo; refine Zbc (κ := Int) (k := 5) (j := 0) (l0 := _) (.inr rfl) rfl rfl rfl rfl rfl rfl ⟨_, rfl⟩ ?_ (hH := List.Sublist.refl _)))
             (refine Zap 4 (by decide +kernel) rfl Za0 (fun _ _ h => h) ?_)
             (first | (apply Zbo; refine Zbc (κ := Int) (k := 2) (j := 0) (l0 := _) (.inr rfl) rfl rfl rfl rfl rfl rfl ⟨_, rfl⟩ ?_ (hH := List.Sublist.refl _)))
             (apply Za2 7 rfl (by decide +kernel) rfl (by repeat (first | exact Za5)) Za0; (first | exact Za3 rfl); exact rfl)
             (refine Zap 16 (by decide +kernel) rfl Za0 (fun _ _ h => h) ?_)
             (first | (apply WO_t; (apply Zc4; exact Zcl (κ := Int) (k := 1) (j := 0) rfl rfl rfl rfl rfl rfl ⟨_, rfl⟩ trivial); exact rfl))
             (apply Za2 17 rfl (by decide +kernel) rfl (by repeat (first | exact Za5)) Za0; (first | exact Za3 rfl); exact rfl)
             (apply Za2 18 rfl (by decide +kernel) rfl (by repeat (first | exact Za5)) Za0; (first | exact Zb5 rfl rfl); exact rfl)
             (apply Za2 19 rfl (by decide +kernel) rfl (by repeat (first | exact Za5)) Za0; (first | exact Zb5 rfl rfl); exact rfl)
             (apply Za2 20 rfl (by decide +kernel) rfl (by repeat (first | exact Za5)) Za0; (first | exact Za4 rfl); exact rfl)
             (apply Za2 21 rfl (by decide +kernel) rfl (by repeat (first | exact Za5)) Za0; (first | exact Za4 rfl); exact rfl)
             refine Zb9 (by decide +kernel) ?_
             exact Zbp () trivial (Zbd 1 (by repeat (first | exact Zai | refine Zad rfl ?_)) rfl)
         ·
           (first | (apply Zbo; refine Zbc (κ := Int) (k := 2) (j := 0) (l0 := _) (.inr rfl) rfl rfl rfl rfl rfl rfl ⟨_, rfl⟩ ?_ (hH := List.Sublist.refl _)))
           (refine Zcg 2 6 (by decide +kernel) rfl Za0 (fun _ _ h => h) rfl Za0 (fun _ _ h => h) ?_ ?_)
           ·
             (first | (apply Zbo; refine Zbc (κ := Int) (k := 1) (j := 0) (l0 := _) (.inr rfl) rfl rfl rfl rfl rfl rfl ⟨_, rfl⟩ ?_ (hH := List.Sublist.refl _)))
             (refine Zap 6 (by decide +kernel) rfl Za0 (fun _ _ h => h) ?_)
             (first | (apply Zbo; refine Zbc (κ := Int) (k := 5) (j := 0) (l0 := _) (.inr rfl) rfl rfl rfl rfl rfl rfl ⟨_, rfl⟩ ?_ (hH := List.Sublist.refl _)))
             (apply Za2 7 rfl (by decide +kernel) rfl (by repeat (first | exact Za5)) Za0; (first | exact Za3 rfl); exact rfl)
             (refine Zap 16 (by decide +kernel) rfl Za0 (fun _ _ h => h) ?_)
             (first | (apply WO_t; (apply Zc4; exact Zcl (κ := Int) (k := 1) (j := 0) rfl rfl rfl rfl rfl rfl ⟨_, rfl⟩ trivial); exact rfl))
             (apply Za2 17 rfl (by decide +kernel) rfl (by repeat (first | exact Za5)) Za0; (first | exact Za3 rfl); exact rfl)
             (apply Za2 18 rfl (by decide +kernel) rfl (by repeat (first | exact Za5)) Za0; (first | exact Zb5 rfl rfl); exact rfl)
             (apply Za2 19 rfl (by decide +kernel) rfl (by repeat (first | exact Za5)) Za0; (first | exact Zb5 rfl rfl); exact rfl)
             (apply Za2 20 rfl (by decide +kernel) rfl (by repeat (first | exact Za5)) Za0; (first | exact Za4 rfl); exact rfl)
             (apply Za2 21 rfl (by decide +kernel) rfl (by repeat (first | exact Za5)) Za0; (first | exact Za4 rfl); exact rfl)
             refine Zb9 (by decide +kernel) ?_
             exact Zbp () trivial (Zbd 1 (by repeat (first | exact Zai | refine Zad rfl ?_)) rfl)
           ·
             (first | (apply Zbo; refine Zbc (κ := Int) (k := 5) (j := 0) (l0 := _) (.inr rfl) rfl rfl rfl rfl rfl rfl ⟨_, rfl⟩ ?_ (hH := List.Sublist.refl _)))
             (refine Zap 2 (by decide +kernel) rfl Za0 (fun _ _ h => h) ?_)
             (first | (apply Zbo; refine Zbc (κ := Int) (k := 1) (j := 0) (l0 := _) (.inr rfl) rfl rfl rfl rfl rfl rfl ⟨_, rfl⟩ ?_ (hH := List.Sublist.refl _)))
             (apply Za2 7 rfl (by decide +kernel) rfl (by repeat (first | exact Za5)) Za0; (first | exact Za3 rfl); exact rfl)
             (refine Zap 16 (by decide +kernel) rfl Za0 (fun _ _ h => h) ?_)
             (first | (apply WO_t; (apply Zc4; exact Zcl (κ := Int) (k := 1) (j := 0) rfl rfl rfl rfl rfl rfl ⟨_, rfl⟩ trivial); exact rfl))
             (apply Za2 17 rfl (by decide +kernel) rfl (by repeat (first | exact Za5)) Za0; (first | exact Za3 rfl); exact rfl)
             (apply Za2 18 rfl (by decide +kernel) rfl (by repeat (first | exact Za5)) Za0; (first | exact Zb5 rfl rfl); exact rfl)
             (apply Za2 19 rfl (by decide +kernel) rfl (by repeat (first | exact Za5)) Za0; (first | exact Zb5 rfl rfl); exact rfl)
             (apply Za2 20 rfl (by decide +kernel) rfl (by repeat (first | exact Za5)) Za0; (first | exact Za4 rfl); exact rfl)
             (apply Za2 21 rfl (by decide +kernel) rfl (by repeat (first | exact Za5)) Za0; (first | exact Za4 rfl); exact rfl)
             refine Zb9 (by decide +kernel) ?_
             exact Zbp () trivial (Zbd 1 (by repeat (first | exact Zai | refine Zad rfl ?_)) rfl)
         ·
           (first | (apply Zbo; refine Zbc (κ := Int) (k := 5) (j := 0) (l0 := _) (.inr rfl) rfl rfl rfl rfl rfl rfl ⟨_, rfl⟩ ?_ (hH := List.Sublist.refl _)))
           (refine Zcg 2 4 (by decide +kernel) rfl Za0 (fun _ _ h => h) rfl Za0 (fun _ _ h => h) ?_ ?_)
           ·
             (first | (apply Zbo; refine Zbc (κ := Int) (k := 1) (j := 0) (l0 := _) (.inr rfl) rfl rfl rfl rfl rfl rfl ⟨_, rfl⟩ ?_ (hH := List.Sublist.refl _)))
             (refine Zap 4 (by decide +kernel) rfl Za0 (fun _ _ h => h) ?_)
             (first | (apply Zbo; refine Zbc (κ := Int) (k := 2) (j := 0) (l0 := _) (.inr rfl) rfl rfl rfl rfl rfl rfl ⟨_, rfl⟩ ?_ (hH := List.Sublist.refl _)))
             (apply Za2 7 rfl (by decide +kernel) rfl (by repeat (first | exact Za5)) Za0; (first | exact Za3 rfl); exact rfl)
             (refine Zap 16 (by decide +kernel) rfl Za0 (fun _ _ h => h) ?_)
             (first | (apply WO_t; (apply Zc4; exact Zcl (κ := Int) (k := 1) (j := 0) rfl rfl rfl rfl rfl rfl ⟨_, rfl⟩ trivial); exact rfl))
             (apply Za2 17 rfl (by decide +kernel) rfl (by repeat (first | exact Za5)) Za0; (first | exact Za3 rfl); exact rfl)
             (apply Za2 18 rfl (by decide +kernel) rfl (by repeat (first | exact Za5)) Za0; (first | exact Zb5 rfl rfl); exact rfl)
             (apply Za2 19 rfl (by decide +kernel) rfl (by repeat (first | exact Za5)) Za0; (first | exact Zb5 rfl rfl); exact rfl)
             (apply Za2 20 rfl (by decide +kernel) rfl (by repeat (first | exact Za5)) Za0; (first | exact Za4 rfl); exact rfl)
             (apply Za2 21 rfl (by decide +kernel) rfl (by repeat (first | exact Za5)) Za0; (first | exact Za4 rfl); exact rfl)
             refine Zb9 (by decide +kernel) ?_
             exact Zbp () trivial (Zbd 1 (by repeat (first | exact Zai | refine Zad rfl ?_)) rfl)
           ·
             (first | (apply Zbo; refine Zbc (κ := Int) (k := 2) (j := 0) (l0 := _) (.inr rfl) rfl rfl rfl rfl rfl rfl ⟨_, rfl⟩ ?_ (hH := List.Sublist.refl _)))
             (refine Zap 2 (by decide +kernel) rfl Za0 (fun _ _ h => h) ?_)
             (first | (apply Zbo; refine Zbc (κ := Int) (k := 1) (j := 0) (l0 := _) (.inr rfl) rfl rfl rfl rfl rfl rfl ⟨_, rfl⟩ ?_ (hH := List.Sublist.refl _)))
             (apply Za2 7 rfl (by decide +kernel) rfl (by repeat (first | exact Za5)) Za0; (first | exact Za3 rfl); exact rfl)
             (refine Zap 16 (by decide +kernel) rfl Za0 (fun _ _ h => h) ?_)
             (first | (apply WO_t; (apply Zc4; exact Zcl (κ := Int) (k := 1) (j := 0) rfl rfl rfl rfl rfl rfl ⟨_, rfl⟩ trivial); exact rfl))
             (apply Za2 17 rfl (by decide +kernel) rfl (by repeat (first | exact Za5)) Za0; (first | exact Za3 rfl); exact rfl)
             (apply Za2 18 rfl (by decide +kernel) rfl (by repeat (first | exact Za5)) Za0; (first | exact Zb5 rfl rfl); exact rfl)
             (apply Za2 19 rfl (by decide +kernel) rfl (by repeat (first | exact Za5)) Za0; (first | exact Zb5 rfl rfl); exact rfl)
             (apply Za2 20 rfl (by decide +kernel) rfl (by repeat (first | exact Za5)) Za0; (first | exact Za4 rfl); exact rfl)
             (apply Za2 21 rfl (by decide +kernel) rfl (by repeat (first | exact Za5)) Za0; (first | exact Za4 rfl); exact rfl)
             refine Zb9 (by decide +kernel) ?_
             exact Zbp () trivial (Zbd 1 (by repeat (first | exact Zai | refine Zad rfl ?_)) rfl)
       have ek : r.keyL key.kind key.name = some (Ex.lookF r.n0 key.name) := by unfold RulesD.keyL; rw [if_pos hk1]
       have eP : r.keyP key = { key with n := (Ex.lookF r.n0 key.name).getD 0 } := by unfold RulesD.keyP; rw [ek]
       have eQ : (!r.keyPok key) = (Ex.lookF r.n0 key.name).isNone := by
         unfold RulesD.keyPok; rw [ek]; cases Ex.lookF r.n0 key.name <;> rfl
       rw [eP] at eK
       have hfnd := find_any M0 key.name (Ex.lookF r.n0 key.name) bl lo2 (h0 _)
       (repeat' (first | (apply Zbh 28; refine Stop.out ?_) | refine Za8 ?_ | refine Za1 ?_ | refine Za6 ?_ | (apply Za9; (exact Za3 rfl); exact rfl) | refine Zb4 rfl ?_))
       constructor
       refine WP_cut1 (fun _ : Unit => ([(2, ex (.pointer (some ⟨b2, 0, none⟩))), (4, fpx b4 [fmap M0]), (6, fmap M2), (7, fpx b7 [fmap M3]), (16, ex (.pointer (some ⟨bl, 0, none⟩))), (17, fpx b17 [ex (FIND bl)]), (18, fpx b18 [ex (EXPR b17 b4 b7 b18)]), (20, ex (.pointer (some ⟨bT, 0 + n * 2, none⟩))), (115, exI .i64 (r.ties.length : Int)), (116, exI .i64 (n : Int)), (135, exI .i64 (r.ties[n].keys.length : Int)), (136, exI .i64 (q : Int))], [row bl 4 1 [exB (lo2 || (Ex.lookF r.n0 key.name).isNone)], row bK 42 (c3 * 3) ((K.flatMap keyV).set (0 + q * 3 + 2) (exI .i64 ((Ex.lookF r.n0 key.name).getD 0))), row bT 40 (c1 * 2) PS, vec (.slice oa2 r.rounds.length c2) 48 13 r.rounds.length (r.rounds.flatMap (roundV k)), row b2 28 9 [exT r.name, isl eCrit r.crits, isl eItem r.bonus, isl eItem r.malus, ex (.slice (some ⟨bT, 0, none⟩) r.ties.length c1), ex (.slice oa2 r.rounds.length c2), isl eI r.prizes, isl eI r.points, exI .i64 r.best]])) (fun _ => True) ?_ fun _ _ => ?_
       · skip
         (refine Zbx 15 rfl ?_)
         (apply Za2 0 rfl (by decide +kernel) rfl (by repeat (first | exact Za5)) Za0; (first | exact Za3 rfl); exact rfl)
         (apply Za2 1 rfl (by decide +kernel) rfl (by repeat (first | exact Za5)) Za0; (first | (apply Zcq; first | exact Zcm rfl)); exact rfl)
         (apply Za2 2 rfl (by decide +kernel) rfl (by repeat (first | exact Za5)) Za0; (first | (apply Zat; first | exact Zaf rfl rfl rfl)); exact rfl)
         (apply Za2 4 rfl (by decide +kernel) rfl (by repeat (first | exact Za5)) Za0; (first | exact Za3 rfl); exact rfl)
         (apply Zb0 5 rfl (by decide +kernel) rfl (by decide +kernel) (by repeat (first | exact Za5)) Za0; (first | (apply Za7; first | exact Zcf rfl rfl)); exact rfl)
         (apply Za2 6 rfl (by decide +kernel) rfl (by repeat (first | exact Za5)) Za0; (first | exact Za3 rfl); exact rfl)
         (apply Za2 7 rfl (by decide +kernel) rfl (by repeat (first | exact Za5)) Za0; (first | exact Za3 rfl); exact rfl)
         (apply Za2 8 rfl (by decide +kernel) rfl (by repeat (first | exact Za5)) Za0; (first | (apply Zcq; first | exact Zcm rfl)); exact rfl)
         (apply Za2 9 rfl (by decide +kernel) rfl (by repeat (first | exact Za5)) Za0; (first | (apply Zat; first | exact Zaf rfl rfl rfl)); exact rfl)
         (apply Za2 11 rfl (by decide +kernel) rfl (by repeat (first | exact Za5)) Za0; (first | exact Za3 rfl); exact rfl)
         (refine Zcg (H1 := fun _ => True) (H2 := fun _ => True) 3 10 (by decide +kernel) rfl Za0 (fun _ _ _ => trivial) rfl Za0 (fun _ _ _ => trivial) ?_ ?_)
         ·
           ((apply WO_t (H := fun _ => True); (first | (apply Za7; first | exact Zab (k := 1) rfl rfl (by assumption) rfl)); exact rfl))
           (refine Zap (H' := fun _ => True) 10 (by decide +kernel) rfl Za0 (fun _ _ _ => trivial) ?_)
           ((apply WO_t (H := fun _ => True); (first | (apply Za7; first | exact Zab (k := 1) rfl rfl (by assumption) rfl)); exact rfl))
           (apply Za2 12 rfl (by decide +kernel) rfl (by repeat (first | exact Za5)) Za0; (first | (apply Zak; first | exact Zc0 rfl rfl rfl)); exact rfl)
           (apply Za2 13 rfl (by decide +kernel) rfl (by repeat (first | exact Za5)) Za0; (first | (apply Zat; first | exact Zaf rfl rfl rfl)); exact rfl)
           (apply Zb0 14 rfl (by decide +kernel) rfl (by decide +kernel) (by repeat (exact Za5)) Za0; ((apply Za7; exact Zab (k := 0) rfl rfl (by assumption) rfl)); exact rfl)
           (refine Zap (H' := feet []) 15 (by decide +kernel) rfl Za0 (fun h => absurd h (by decide)) ?_)
           ((apply Zao; (refine WO_callvG (vs := [.pointer (some ⟨bl, 0, none⟩)]) (caps := [ex (.pointer (some ⟨bl, 0, none⟩))]) (args := [_, _]) rfl (.ex .nil) (.one 3 rfl .nil) Tryz.func57 rfl hfnd rfl ?_; rintro _ _ ⟨rfl, rfl⟩)))
           (refine Zap (H' := fun _ => True) 16 (by decide +kernel) rfl Za0 (fun _ _ _ => trivial) ?_)
           ((apply WO_t (H := fun _ => True); (first | (apply Zak; first | exact Zc0 rfl rfl rfl)); exact rfl))
           (refine Zap (H' := fun _ => True) 17 (by decide +kernel) rfl Za0 (fun _ _ _ => trivial) ?_)
           ((apply WO_t (H := fun _ => True); (first | (apply Zat; first | exact Zaf rfl rfl rfl)); exact rfl))
           (refine Zap (H' := feet []) 18 (by decide +kernel) rfl Za0 (fun h => absurd h (by decide)) ?_)
           (first | (apply Zav; first | refine WO_store1 (k := 1) (l0 := []) rfl rfl rfl ?_))
           refine Zb9 (by decide +kernel) ?_
           exact Zbp () trivial (Zae (by repeat (first | exact Zai | refine Zad rfl ?_)) (List.Sublist.refl _))
         ·
           ((apply WO_t (H := fun _ => True); (first | (apply Za7; first | exact Zab (k := 1) rfl rfl (by assumption) rfl)); exact rfl))
           (apply Za2 12 rfl (by decide +kernel) rfl (by repeat (first | exact Za5)) Za0; (first | (apply Zak; first | exact Zc0 rfl rfl rfl)); exact rfl)
           (apply Za2 13 rfl (by decide +kernel) rfl (by repeat (first | exact Za5)) Za0; (first | (apply Zat; first | exact Zaf rfl rfl rfl)); exact rfl)
           (apply Zb0 14 rfl (by decide +kernel) rfl (by decide +kernel) (by repeat (exact Za5)) Za0; ((apply Za7; exact Zab (k := 0) rfl rfl (by assumption) rfl)); exact rfl)
           (refine Zcg (H1 := fun _ => True) (H2 := feet []) 3 15 (by decide +kernel) rfl Za0 (fun _ _ _ => trivial) rfl Za0 (fun h => absurd h (by decide)) ?_ ?_)
           ·
             ((apply WO_t (H := fun _ => True); (first | (apply Za7; first | exact Zab (k := 1) rfl rfl (by assumption) rfl)); exact rfl))
             (refine Zap (H' := feet []) 15 (by decide +kernel) rfl Za0 (fun h => absurd h (by decide)) ?_)
             ((apply Zao; (refine WO_callvG (vs := [.pointer (some ⟨bl, 0, none⟩)]) (caps := [ex (.pointer (some ⟨bl, 0, none⟩))]) (args := [_, _]) rfl (.ex .nil) (.one 3 rfl .nil) Tryz.func57 rfl hfnd rfl ?_; rintro _ _ ⟨rfl, rfl⟩)))
             (refine Zap (H' := fun _ => True) 16 (by decide +kernel) rfl Za0 (fun _ _ _ => trivial) ?_)
             ((apply WO_t (H := fun _ => True); (first | (apply Zak; first | exact Zc0 rfl rfl rfl)); exact rfl))
             (refine Zap (H' := fun _ => True) 17 (by decide +kernel) rfl Za0 (fun _ _ _ => trivial) ?_)
             ((apply WO_t (H := fun _ => True); (first | (apply Zat; first | exact Zaf rfl rfl rfl)); exact rfl))
             (refine Zap (H' := feet []) 18 (by decide +kernel) rfl Za0 (fun h => absurd h (by decide)) ?_)
             (first | (apply Zav; first | refine WO_store1 (k := 1) (l0 := []) rfl rfl rfl ?_))
             refine Zb9 (by decide +kernel) ?_
             exact Zbp () trivial (Zae (by repeat (first | exact Zai | refine Zad rfl ?_)) (List.Sublist.refl _))
           ·
             ((apply Zao; (refine WO_callvG (vs := [.pointer (some ⟨bl, 0, none⟩)]) (caps := [ex (.pointer (some ⟨bl, 0, none⟩))]) (args := [_, _]) rfl (.ex .nil) (.one 3 rfl .nil) Tryz.func57 rfl hfnd rfl ?_; rintro _ _ ⟨rfl, rfl⟩)))
             (refine Zap (H' := fun _ => True) 3 (by decide +kernel) rfl Za0 (fun _ _ _ => trivial) ?_)
             ((apply WO_t (H := fun _ => True); (first | (apply Za7; first | exact Zab (k := 2) rfl rfl (by assumption) rfl)); exact rfl))
             (refine Zap (H' := fun _ => True) 16 (by decide +kernel) rfl Za0 (fun _ _ _ => trivial) ?_)
             ((apply WO_t (H := fun _ => True); (first | (apply Zak; first | exact Zc0 rfl rfl rfl)); exact rfl))
             (refine Zap (H' := fun _ => True) 17 (by decide +kernel) rfl Za0 (fun _ _ _ => trivial) ?_)
             ((apply WO_t (H := fun _ => True); (first | (apply Zat; first | exact Zaf rfl rfl rfl)); exact rfl))
             (refine Zap (H' := feet []) 18 (by decide +kernel) rfl Za0 (fun h => absurd h (by decide)) ?_)
             (first | (apply Zav; first | refine WO_store1 (k := 1) (l0 := []) rfl rfl rfl ?_))
             refine Zb9 (by decide +kernel) ?_
             exact Zbp () trivial (Zae (by repeat (first | exact Zai | refine Zad rfl ?_)) (List.Sublist.refl _))
       (repeat' (first | refine Za1 ?_ | refine Za6 ?_ | (apply Za9; (first | exact Za3 rfl | (apply Zah; first | exact Zbf rfl rfl)); exact rfl)))
       refine ⟨q + 1, by omega, by omega, ?_⟩
       rw [eK, eB, eQ, ← hKset]
       refine (Leads_perm ((List.perm_append_comm (l₁ := [_]) (l₂ := [_, _, _])).append_right [_])).trans ?_
       refine Leads_row_vec (k := 0) (sz := 3) (n := r.ties[n].keys.length) (c := c3) rfl rfl ?_ (by decide) hcm3 ?_
       · rw [List.length_set, hKn, hKl]
       exact Zae (by repeat (first | exact Zai | refine Zad rfl ?_)) (List.Sublist.refl _)
     by_cases hk2 : key.kind = 2
     · rw [hk2] at hK0
       (repeat' (first | (apply cut_at 26; refine Stop.out ?_) | refine Za8 ?_ | refine Za1 ?_ | refine Za6 ?_ | (apply Za9; (first | exact Za3 rfl | exact Za4 rfl | (apply Zah; exact Zau rfl rfl)); exact rfl) | refine Zaa ?_ | refine Zag ?_ | (refine Zac rfl (fun hb => ?_) (fun hb => ?_) <;> (repeat (first | replace hb := Zam hb | replace hb := Zan hb)) <;> (try (exfalso; omega)))))
       all_goals (try (exfalso; omega))
       refine ⟨WP_cutR 26 (fun _ : Unit => ([(2, ex (.pointer (some ⟨b2, 0, none⟩))), (4, fpx b4 [fmap M0]), (6, fmap M2), (7, fpx b7 [fmap M3]), (16, ex (.pointer (some ⟨bl, 0, none⟩))), (17, fpx b17 [ex (FIND bl)]), (18, fpx b18 [ex (EXPR b17 b4 b7 b18)]), (20, ex (.pointer (some ⟨bT, 0 + n * 2, none⟩))), (115, exI .i64 (r.ties.length : Int)), (116, exI .i64 (n : Int)), (135, exI .i64 (r.ties[n].keys.length : Int)), (136, exI .i64 (q : Int)), (21, exI .i64 (q : Int)), (22, fmap M3), (23, exB true)], [row bK 42 (c3 * 3) (K.flatMap keyV), row bT 40 (c1 * 2) PS, vec (.slice oa2 r.rounds.length c2) 48 13 r.rounds.length (r.rounds.flatMap (roundV k)), row bl 4 1 [exB lo2], row b2 28 9 [exT r.name, isl eCrit r.crits, isl eItem r.bonus, isl eItem r.malus, ex (.slice (some ⟨bT, 0, none⟩) r.ties.length c1), ex (.slice oa2 r.rounds.length c2), isl eI r.prizes, isl eI r.points, exI .i64 r.best]])) (fun _ => True) ?_ fun _ _ => ?_⟩
       · skip
         (refine Zbx 22 rfl ?_)
         (apply Zb0 1 rfl (by decide +kernel) rfl (by decide +kernel) (by repeat (first | exact Za5)) Za0; (first | (apply Za7; first | exact Zcf rfl rfl)); exact rfl)
         (apply Zb0 3 rfl (by decide +kernel) rfl (by decide +kernel) (by repeat (first | exact Za5)) Za0; (first | (apply Za7; first | exact Zcf rfl rfl)); exact rfl)
         (apply Za2 5 rfl (by decide +kernel) rfl (by repeat (first | exact Za5)) Za0; (first | exact Za3 rfl); exact rfl)
         (apply Za2 8 rfl (by decide +kernel) rfl (by repeat (first | exact Za5)) Za0; (first | exact Za3 rfl); exact rfl)
         (apply Za2 9 rfl (by decide +kernel) rfl (by repeat (first | exact Za5)) Za0; (first | (apply Zcq; first | exact Zcm rfl)); exact rfl)
         (apply Za2 10 rfl (by decide +kernel) rfl (by repeat (first | exact Za5)) Za0; (first | (apply Zat; first | exact Zaf rfl rfl rfl)); exact rfl)
         (apply Zb0 11 rfl (by decide +kernel) rfl (by decide +kernel) (by repeat (exact Za5)) Za0; ((apply Za7; exact Zab (k := 1) rfl rfl (by assumption) rfl)); exact rfl)
         (apply Za2 12 rfl (by decide +kernel) rfl (by repeat (first | exact Za5)) Za0; (first | exact Za3 rfl); exact rfl)
         (apply Za2 13 rfl (by decide +kernel) rfl (by repeat (first | exact Za5)) Za0; (first | (apply Zak; first | exact Zc0 rfl rfl rfl)); exact rfl)
         (apply Za2 14 rfl (by decide +kernel) rfl (by repeat (first | exact Za5)) Za0; (first | (apply Zat; first | exact Zaf rfl rfl rfl)); exact rfl)
         (apply Zb0 15 rfl (by decide +kernel) rfl (by decide +kernel) (by repeat (exact Za5)) Za0; ((apply Za7; exact Zab (k := 0) rfl rfl (by assumption) rfl)); exact rfl)
         (refine Zap 0 (by decide +kernel) rfl Za0 (fun _ _ h => h) ?_)
         (first | (apply g_mkmap; refine WO_mkmap (κ := Int) ?_; intro _))
         (refine WPY_three 2 4 6 (by decide +kernel) rfl Za0 (fun _ _ h => h) rfl Za0 (fun _ _ h => h) rfl Za0 (fun _ _ h => h) ?_ ?_ ?_)
         ·
           (first | (apply Zbo; refine Zbc (κ := Int) (k := 1) (j := 0) (l0 := _) (.inr rfl) rfl rfl rfl rfl rfl rfl ⟨_, rfl⟩ ?_ (hH := List.Sublist.refl _)))
           (refine Zcg 4 6 (by decide +kernel) rfl Za0 (fun _ _ h => h) rfl Za0 (fun _ _ h => h) ?_ ?_)
           ·
             (first | (apply Zbo; refine Zbc (κ := Int) (k := 2) (j := 0) (l0 := _) (.inr rfl) rfl rfl rfl rfl rfl rfl ⟨_, rfl⟩ ?_ (hH := List.Sublist.refl _)))
             (refine Zap 6 (by decide +kernel) rfl Za0 (fun _ _ h => h) ?_)
             (first | (apply Zbo; refine Zbc (κ := Int) (k := 5) (j := 0) (l0 := _) (.inr rfl) rfl rfl rfl rfl rfl rfl ⟨_, rfl⟩ ?_ (hH := List.Sublist.refl _)))
             (apply Za2 7 rfl (by decide +kernel) rfl (by repeat (first | exact Za5)) Za0; (first | exact Za3 rfl); exact rfl)
             (refine Zap 16 (by decide +kernel) rfl Za0 (fun _ _ h => h) ?_)
             (first | (apply WO_t; (apply Zc4; exact Zcl (κ := Int) (k := 2) (j := 0) rfl rfl rfl rfl rfl rfl ⟨_, rfl⟩ trivial); exact rfl))
             (apply Za2 17 rfl (by decide +kernel) rfl (by repeat (first | exact Za5)) Za0; (first | exact Za3 rfl); exact rfl)
             (apply Za2 18 rfl (by decide +kernel) rfl (by repeat (first | exact Za5)) Za0; (first | exact Zb5 rfl rfl); exact rfl)
             (apply Za2 19 rfl (by decide +kernel) rfl (by repeat (first | exact Za5)) Za0; (first | exact Zb5 rfl rfl); exact rfl)
             (apply Za2 20 rfl (by decide +kernel) rfl (by repeat (first | exact Za5)) Za0; (first | exact Za4 rfl); exact rfl)
             (apply Za2 21 rfl (by decide +kernel) rfl (by repeat (first | exact Za5)) Za0; (first | exact Za4 rfl); exact rfl)
             refine Zb9 (by decide +kernel) ?_
             exact Zbp () trivial (Zbd 1 (by repeat (first | exact Zai | refine Zad rfl ?_)) rfl)
           ·
             (first | (apply Zbo; refine Zbc (κ := Int) (k := 5) (j := 0) (l0 := _) (.inr rfl) rfl rfl rfl rfl rfl rfl ⟨_, rfl⟩ ?_ (hH := List.Sublist.refl _)))
             (refine Zap 4 (by decide +kernel) rfl Za0 (fun _ _ h => h) ?_)
             (first | (apply Zbo; refine Zbc (κ := Int) (k := 2) (j := 0) (l0 := _) (.inr rfl) rfl rfl rfl rfl rfl rfl ⟨_, rfl⟩ ?_ (hH := List.Sublist.refl _)))
             (apply Za2 7 rfl (by decide +kernel) rfl (by repeat (first | exact Za5)) Za0; (first | exact Za3 rfl); exact rfl)
             (refine Zap 16 (by decide +kernel) rfl Za0 (fun _ _ h => h) ?_)
             (first | (apply WO_t; (apply Zc4; exact Zcl (κ := Int) (k := 2) (j := 0) rfl rfl rfl rfl rfl rfl ⟨_, rfl⟩ trivial); exact rfl))
             (apply Za2 17 rfl (by decide +kernel) rfl (by repeat (first | exact Za5)) Za0; (first | exact Za3 rfl); exact rfl)
             (apply Za2 18 rfl (by decide +kernel) rfl (by repeat (first | exact Za5)) Za0; (first | exact Zb5 rfl rfl); exact rfl)
             (apply Za2 19 rfl (by decide +kernel) rfl (by repeat (first | exact Za5)) Za0; (first | exact Zb5 rfl rfl); exact rfl)
             (apply Za2 20 rfl (by decide +kernel) rfl (by repeat (first | exact Za5)) Za0; (first | exact Za4 rfl); exact rfl)
             (apply Za2 21 rfl (by decide +kernel) rfl (by repeat (first | exact Za5)) Za0; (first | exact Za4 rfl); exact rfl)
             refine Zb9 (by decide +kernel) ?_
             exact Zbp () trivial (Zbd 1 (by repeat (first | exact Zai | refine Zad rfl ?_)) rfl)
         ·
           (first | (apply Zbo; refine Zbc (κ := Int) (k := 2) (j := 0) (l0 := _) (.inr rfl) rfl rfl rfl rfl rfl rfl ⟨_, rfl⟩ ?_ (hH := List.Sublist.refl _)))
           (refine Zcg 2 6 (by decide +kernel) rfl Za0 (fun _ _ h => h) rfl Za0 (fun _ _ h => h) ?_ ?_)
           ·
             (first | (apply Zbo; refine Zbc (κ := Int) (k := 1) (j := 0) (l0 := _) (.inr rfl) rfl rfl rfl rfl rfl rfl ⟨_, rfl⟩ ?_ (hH := List.Sublist.refl _)))
             (refine Zap 6 (by decide +kernel) rfl Za0 (fun _ _ h => h) ?_)
             (first | (apply Zbo; refine Zbc (κ := Int) (k := 5) (j := 0) (l0 := _) (.inr rfl) rfl rfl rfl rfl rfl rfl ⟨_, rfl⟩ ?_ (hH := List.Sublist.refl _)))
             (apply Za2 7 rfl (by decide +kernel) rfl (by repeat (first | exact Za5)) Za0; (first | exact Za3 rfl); exact rfl)
             (refine Zap 16 (by decide +kernel) rfl Za0 (fun _ _ h => h) ?_)
             (first | (apply WO_t; (apply Zc4; exact Zcl (κ := Int) (k := 2) (j := 0) rfl rfl rfl rfl rfl rfl ⟨_, rfl⟩ trivial); exact rfl))
             (apply Za2 17 rfl (by decide +kernel) rfl (by repeat (first | exact Za5)) Za0; (first | exact Za3 rfl); exact rfl)
             (apply Za2 18 rfl (by decide +kernel) rfl (by repeat (first | exact Za5)) Za0; (first | exact Zb5 rfl rfl); exact rfl)
             (apply Za2 19 rfl (by decide +kernel) rfl (by repeat (first | exact Za5)) Za0; (first | exact Zb5 rfl rfl); exact rfl)
             (apply Za2 20 rfl (by decide +kernel) rfl (by repeat (first | exact Za5)) Za0; (first | exact Za4 rfl); exact rfl)
             (apply Za2 21 rfl (by decide +kernel) rfl (by repeat (first | exact Za5)) Za0; (first | exact Za4 rfl); exact rfl)
             refine Zb9 (by decide +kernel) ?_
             exact Zbp () trivial (Zbd 1 (by repeat (first | exact Zai | refine Zad rfl ?_)) rfl)
           ·
             (first | (apply Zbo; refine Zbc (κ := Int) (k := 5) (j := 0) (l0 := _) (.inr rfl) rfl rfl rfl rfl rfl rfl ⟨_, rfl⟩ ?_ (hH := List.Sublist.refl _)))
             (refine Zap 2 (by decide +kernel) rfl Za0 (fun _ _ h => h) ?_)
             (first | (apply Zbo; refine Zbc (κ := Int) (k := 1) (j := 0) (l0 := _) (.inr rfl) rfl rfl rfl rfl rfl rfl ⟨_, rfl⟩ ?_ (hH := List.Sublist.refl _)))
             (apply Za2 7 rfl (by decide +kernel) rfl (by repeat (first | exact Za5)) Za0; (first | exact Za3 rfl); exact rfl)
             (refine Zap 16 (by decide +kernel) rfl Za0 (fun _ _ h => h) ?_)
             (first | (apply WO_t; (apply Zc4; exact Zcl (κ := Int) (k := 2) (j := 0) rfl rfl rfl rfl rfl rfl ⟨_, rfl⟩ trivial); exact rfl))
             (apply Za2 17 rfl (by decide +kernel) rfl (by repeat (first | exact Za5)) Za0; (first | exact Za3 rfl); exact rfl)
             (apply Za2 18 rfl (by decide +kernel) rfl (by repeat (first | exact Za5)) Za0; (first | exact Zb5 rfl rfl); exact rfl)
             (apply Za2 19 rfl (by decide +kernel) rfl (by repeat (first | exact Za5)) Za0; (first | exact Zb5 rfl rfl); exact rfl)
             (apply Za2 20 rfl (by decide +kernel) rfl (by repeat (first | exact Za5)) Za0; (first | exact Za4 rfl); exact rfl)
             (apply Za2 21 rfl (by decide +kernel) rfl (by repeat (first | exact Za5)) Za0; (first | exact Za4 rfl); exact rfl)
             refine Zb9 (by decide +kernel) ?_
             exact Zbp () trivial (Zbd 1 (by repeat (first | exact Zai | refine Zad rfl ?_)) rfl)
         ·
           (first | (apply Zbo; refine Zbc (κ := Int) (k := 5) (j := 0) (l0 := _) (.inr rfl) rfl rfl rfl rfl rfl rfl ⟨_, rfl⟩ ?_ (hH := List.Sublist.refl _)))
           (refine Zcg 2 4 (by decide +kernel) rfl Za0 (fun _ _ h => h) rfl Za0 (fun _ _ h => h) ?_ ?_)
           ·
             (first | (apply Zbo; refine Zbc (κ := Int) (k := 1) (j := 0) (l0 := _) (.inr rfl) rfl rfl rfl rfl rfl rfl ⟨_, rfl⟩ ?_ (hH := List.Sublist.refl _)))
             (refine Zap 4 (by decide +kernel) rfl Za0 (fun _ _ h => h) ?_)
             (first | (apply Zbo; refine Zbc (κ := Int) (k := 2) (j := 0) (l0 := _) (.inr rfl) rfl rfl rfl rfl rfl rfl ⟨_, rfl⟩ ?_ (hH := List.Sublist.refl _)))
             (apply Za2 7 rfl (by decide +kernel) rfl (by repeat (first | exact Za5)) Za0; (first | exact Za3 rfl); exact rfl)
             (refine Zap 16 (by decide +kernel) rfl Za0 (fun _ _ h => h) ?_)
             (first | (apply WO_t; (apply Zc4; exact Zcl (κ := Int) (k := 2) (j := 0) rfl rfl rfl rfl rfl rfl ⟨_, rfl⟩ trivial); exact rfl))
             (apply Za2 17 rfl (by decide +kernel) rfl (by repeat (first | exact Za5)) Za0; (first | exact Za3 rfl); exact rfl)
             (apply Za2 18 rfl (by decide +kernel) rfl (by repeat (first | exact Za5)) Za0; (first | exact Zb5 rfl rfl); exact rfl)
             (apply Za2 19 rfl (by decide +kernel) rfl (by repeat (first | exact Za5)) Za0; (first | exact Zb5 rfl rfl); exact rfl)
             (apply Za2 20 rfl (by decide +kernel) rfl (by repeat (first | exact Za5)) Za0; (first | exact Za4 rfl); exact rfl)
             (apply Za2 21 rfl (by decide +kernel) rfl (by repeat (first | exact Za5)) Za0; (first | exact Za4 rfl); exact rfl)
             refine Zb9 (by decide +kernel) ?_
             exact Zbp () trivial (Zbd 1 (by repeat (first | exact Zai | refine Zad rfl ?_)) rfl)
           ·
             (first | (apply Zbo; refine Zbc (κ := Int) (k := 2) (j := 0) (l0 := _) (.inr rfl) rfl rfl rfl rfl rfl rfl ⟨_, rfl⟩ ?_ (hH := List.Sublist.refl _)))
             (refine Zap 2 (by decide +kernel) rfl Za0 (fun _ _ h => h) ?_)
             (first | (apply Zbo; refine Zbc (κ := Int) (k := 1) (j := 0) (l0 := _) (.inr rfl) rfl rfl rfl rfl rfl rfl ⟨_, rfl⟩ ?_ (hH := List.Sublist.refl _)))
             (apply Za2 7 rfl (by decide +kernel) rfl (by repeat (first | exact Za5)) Za0; (first | exact Za3 rfl); exact rfl)
             (refine Zap 16 (by decide +kernel) rfl Za0 (fun _ _ h => h) ?_)
             (first | (apply WO_t; (apply Zc4; exact Zcl (κ := Int) (k := 2) (j := 0) rfl rfl rfl rfl rfl rfl ⟨_, rfl⟩ trivial); exact rfl))
             (apply Za2 17 rfl (by decide +kernel) rfl (by repeat (first | exact Za5)) Za0; (first | exact Za3 rfl); exact rfl)
             (apply Za2 18 rfl (by decide +kernel) rfl (by repeat (first | exact Za5)) Za0; (first | exact Zb5 rfl rfl); exact rfl)
             (apply Za2 19 rfl (by decide +kernel) rfl (by repeat (first | exact Za5)) Za0; (first | exact Zb5 rfl rfl); exact rfl)
             (apply Za2 20 rfl (by decide +kernel) rfl (by repeat (first | exact Za5)) Za0; (first | exact Za4 rfl); exact rfl)
             (apply Za2 21 rfl (by decide +kernel) rfl (by repeat (first | exact Za5)) Za0; (first | exact Za4 rfl); exact rfl)
             refine Zb9 (by decide +kernel) ?_
             exact Zbp () trivial (Zbd 1 (by repeat (first | exact Zai | refine Zad rfl ?_)) rfl)
       have ek : r.keyL key.kind key.name = some (Ex.lookF r.n3 key.name) := by unfold RulesD.keyL; rw [if_neg hk1, if_pos hk2]
       have eP : r.keyP key = { key with n := (Ex.lookF r.n3 key.name).getD 0 } := by unfold RulesD.keyP; rw [ek]
       have eQ : (!r.keyPok key) = (Ex.lookF r.n3 key.name).isNone := by
         unfold RulesD.keyPok; rw [ek]; cases Ex.lookF r.n3 key.name <;> rfl
       rw [eP] at eK
       have hfnd := find_any M3 key.name (Ex.lookF r.n3 key.name) bl lo2 (h3 _)
       (repeat' (first | (apply Zbh 28; refine Stop.out ?_) | refine Za8 ?_ | refine Za1 ?_ | refine Za6 ?_ | (apply Za9; (exact Za3 rfl); exact rfl) | refine Zb4 rfl ?_))
       constructor
       refine WP_cut1 (fun _ : Unit => ([(2, ex (.pointer (some ⟨b2, 0, none⟩))), (4, fpx b4 [fmap M0]), (6, fmap M2), (7, fpx b7 [fmap M3]), (16, ex (.pointer (some ⟨bl, 0, none⟩))), (17, fpx b17 [ex (FIND bl)]), (18, fpx b18 [ex (EXPR b17 b4 b7 b18)]), (20, ex (.pointer (some ⟨bT, 0 + n * 2, none⟩))), (115, exI .i64 (r.ties.length : Int)), (116, exI .i64 (n : Int)), (135, exI .i64 (r.ties[n].keys.length : Int)), (136, exI .i64 (q : Int))], [row bl 4 1 [exB (lo2 || (Ex.lookF r.n3 key.name).isNone)], row bK 42 (c3 * 3) ((K.flatMap keyV).set (0 + q * 3 + 2) (exI .i64 ((Ex.lookF r.n3 key.name).getD 0))), row bT 40 (c1 * 2) PS, vec (.slice oa2 r.rounds.length c2) 48 13 r.rounds.length (r.rounds.flatMap (roundV k)), row b2 28 9 [exT r.name, isl eCrit r.crits, isl eItem r.bonus, isl eItem r.malus, ex (.slice (some ⟨bT, 0, none⟩) r.ties.length c1), ex (.slice oa2 r.rounds.length c2), isl eI r.prizes, isl eI r.points, exI .i64 r.best]])) (fun _ => True) ?_ fun _ _ => ?_
       · skip
         (refine Zbx 15 rfl ?_)
         (apply Za2 0 rfl (by decide +kernel) rfl (by repeat (first | exact Za5)) Za0; (first | exact Za3 rfl); exact rfl)
         (apply Za2 1 rfl (by decide +kernel) rfl (by repeat (first | exact Za5)) Za0; (first | (apply Zcq; first | exact Zcm rfl)); exact rfl)
         (apply Za2 2 rfl (by decide +kernel) rfl (by repeat (first | exact Za5)) Za0; (first | (apply Zat; first | exact Zaf rfl rfl rfl)); exact rfl)
         (apply Za2 4 rfl (by decide +kernel) rfl (by repeat (first | exact Za5)) Za0; (first | exact Za3 rfl); exact rfl)
         (apply Zb0 5 rfl (by decide +kernel) rfl (by decide +kernel) (by repeat (first | exact Za5)) Za0; (first | (apply Za7; first | exact Zcf rfl rfl)); exact rfl)
         (apply Za2 6 rfl (by decide +kernel) rfl (by repeat (first | exact Za5)) Za0; (first | exact Za3 rfl); exact rfl)
         (apply Za2 7 rfl (by decide +kernel) rfl (by repeat (first | exact Za5)) Za0; (first | exact Za3 rfl); exact rfl)
         (apply Za2 8 rfl (by decide +kernel) rfl (by repeat (first | exact Za5)) Za0; (first | (apply Zcq; first | exact Zcm rfl)); exact rfl)
         (apply Za2 9 rfl (by decide +kernel) rfl (by repeat (first | exact Za5)) Za0; (first | (apply Zat; first | exact Zaf rfl rfl rfl)); exact rfl)
         (apply Za2 11 rfl (by decide +kernel) rfl (by repeat (first | exact Za5)) Za0; (first | exact Za3 rfl); exact rfl)
         (refine Zcg (H1 := fun _ => True) (H2 := fun _ => True) 3 10 (by decide +kernel) rfl Za0 (fun _ _ _ => trivial) rfl Za0 (fun _ _ _ => trivial) ?_ ?_)
         ·
           ((apply WO_t (H := fun _ => True); (first | (apply Za7; first | exact Zab (k := 1) rfl rfl (by assumption) rfl)); exact rfl))
           (refine Zap (H' := fun _ => True) 10 (by decide +kernel) rfl Za0 (fun _ _ _ => trivial) ?_)
           ((apply WO_t (H := fun _ => True); (first | (apply Za7; first | exact Zab (k := 1) rfl rfl (by assumption) rfl)); exact rfl))
           (apply Za2 12 rfl (by decide +kernel) rfl (by repeat (first | exact Za5)) Za0; (first | (apply Zak; first | exact Zc0 rfl rfl rfl)); exact rfl)
           (apply Za2 13 rfl (by decide +kernel) rfl (by repeat (first | exact Za5)) Za0; (first | (apply Zat; first | exact Zaf rfl rfl rfl)); exact rfl)
           (apply Zb0 14 rfl (by decide +kernel) rfl (by decide +kernel) (by repeat (exact Za5)) Za0; ((apply Za7; exact Zab (k := 0) rfl rfl (by assumption) rfl)); exact rfl)
           (refine Zap (H' := feet []) 15 (by decide +kernel) rfl Za0 (fun h => absurd h (by decide)) ?_)
           ((apply Zao; (refine WO_callvG (vs := [.pointer (some ⟨bl, 0, none⟩)]) (caps := [ex (.pointer (some ⟨bl, 0, none⟩))]) (args := [_, _]) rfl (.ex .nil) (.one 3 rfl .nil) Tryz.func57 rfl hfnd rfl ?_; rintro _ _ ⟨rfl, rfl⟩)))
           (refine Zap (H' := fun _ => True) 16 (by decide +kernel) rfl Za0 (fun _ _ _ => trivial) ?_)
           ((apply WO_t (H := fun _ => True); (first | (apply Zak; first | exact Zc0 rfl rfl rfl)); exact rfl))
           (refine Zap (H' := fun _ => True) 17 (by decide +kernel) rfl Za0 (fun _ _ _ => trivial) ?_)
           ((apply WO_t (H := fun _ => True); (first | (apply Zat; first | exact Zaf rfl rfl rfl)); exact rfl))
           (refine Zap (H' := feet []) 18 (by decide +kernel) rfl Za0 (fun h => absurd h (by decide)) ?_)
           (first | (apply Zav; first | refine WO_store1 (k := 1) (l0 := []) rfl rfl rfl ?_))
           refine Zb9 (by decide +kernel) ?_
           exact Zbp () trivial (Zae (by repeat (first | exact Zai | refine Zad rfl ?_)) (List.Sublist.refl _))
         ·
           ((apply WO_t (H := fun _ => True); (first | (apply Za7; first | exact Zab (k := 1) rfl rfl (by assumption) rfl)); exact rfl))
           (apply Za2 12 rfl (by decide +kernel) rfl (by repeat (first | exact Za5)) Za0; (first | (apply Zak; first | exact Zc0 rfl rfl rfl)); exact rfl)
           (apply Za2 13 rfl (by decide +kernel) rfl (by repeat (first | exact Za5)) Za0; (first | (apply Zat; first | exact Zaf rfl rfl rfl)); exact rfl)
           (apply Zb0 14 rfl (by decide +kernel) rfl (by decide +kernel) (by repeat (exact Za5)) Za0; ((apply Za7; exact Zab (k := 0) rfl rfl (by assumption) rfl)); exact rfl)
           (refine Zcg (H1 := fun _ => True) (H2 := feet []) 3 15 (by decide +kernel) rfl Za0 (fun _ _ _ => trivial) rfl Za0 (fun h => absurd h (by decide)) ?_ ?_)
           ·
             ((apply WO_t (H := fun _ => True); (first | (apply Za7; first | exact Zab (k := 1) rfl rfl (by assumption) rfl)); exact rfl))
             (refine Zap (H' := feet []) 15 (by decide +kernel) rfl Za0 (fun h => absurd h (by decide)) ?_)
             ((apply Zao; (refine WO_callvG (vs := [.pointer (some ⟨bl, 0, none⟩)]) (caps := [ex (.pointer (some ⟨bl, 0, none⟩))]) (args := [_, _]) rfl (.ex .nil) (.one 3 rfl .nil) Tryz.func57 rfl hfnd rfl ?_; rintro _ _ ⟨rfl, rfl⟩)))
             (refine Zap (H' := fun _ => True) 16 (by decide +kernel) rfl Za0 (fun _ _ _ => trivial) ?_)
             ((apply WO_t (H := fun _ => True); (first | (apply Zak; first | exact Zc0 rfl rfl rfl)); exact rfl))
             (refine Zap (H' := fun _ => True) 17 (by decide +kernel) rfl Za0 (fun _ _ _ => trivial) ?_)
             ((apply WO_t (H := fun _ => True); (first | (apply Zat; first | exact Zaf rfl rfl rfl)); exact rfl))
             (refine Zap (H' := feet []) 18 (by decide +kernel) rfl Za0 (fun h => absurd h (by decide)) ?_)
             (first | (apply Zav; first | refine WO_store1 (k := 1) (l0 := []) rfl rfl rfl ?_))
             refine Zb9 (by decide +kernel) ?_
             exact Zbp () trivial (Zae (by repeat (first | exact Zai | refine Zad rfl ?_)) (List.Sublist.refl _))
           ·
             ((apply Zao; (refine WO_callvG (vs := [.pointer (some ⟨bl, 0, none⟩)]) (caps := [ex (.pointer (some ⟨bl, 0, none⟩))]) (args := [_, _]) rfl (.ex .nil) (.one 3 rfl .nil) Tryz.func57 rfl hfnd rfl ?_; rintro _ _ ⟨rfl, rfl⟩)))
             (refine Zap (H' := fun _ => True) 3 (by decide +kernel) rfl Za0 (fun _ _ _ => trivial) ?_)
             ((apply WO_t (H := fun _ => True); (first | (apply Za7; first | exact Zab (k := 2) rfl rfl (by assumption) rfl)); exact rfl))
             (refine Zap (H' := fun _ => True) 16 (by decide +kernel) rfl Za0 (fun _ _ _ => trivial) ?_)
             ((apply WO_t (H := fun _ => True); (first | (apply Zak; first | exact Zc0 rfl rfl rfl)); exact rfl))
             (refine Zap (H' := fun _ => True) 17 (by decide +kernel) rfl Za0 (fun _ _ _ => trivial) ?_)
             ((apply WO_t (H := fun _ => True); (first | (apply Zat; first | exact Zaf rfl rfl rfl)); exact rfl))
             (refine Zap (H' := feet []) 18 (by decide +kernel) rfl Za0 (fun h => absurd h (by decide)) ?_)
             (first | (apply Zav; first | refine WO_store1 (k := 1) (l0 := []) rfl rfl rfl ?_))
             refine Zb9 (by decide +kernel) ?_
             exact Zbp () trivial (Zae (by repeat (first | exact Zai | refine Zad rfl ?_)) (List.Sublist.refl _))
       (repeat' (first | refine Za1 ?_ | refine Za6 ?_ | (apply Za9; (first | exact Za3 rfl | (apply Zah; first | exact Zbf rfl rfl)); exact rfl)))
       refine ⟨q + 1, by omega, by omega, ?_⟩
       rw [eK, eB, eQ, ← hKset]
       refine (Leads_perm ((List.perm_append_comm (l₁ := [_]) (l₂ := [_, _, _])).append_right [_])).trans ?_
       refine Leads_row_vec (k := 0) (sz := 3) (n := r.ties[n].keys.length) (c := c3) rfl rfl ?_ (by decide) hcm3 ?_
       · rw [List.length_set, hKn, hKl]
       exact Zae (by repeat (first | exact Zai | refine Zad rfl ?_)) (List.Sublist.refl _)
     by_cases hk5 : key.kind = 5
     · rw [hk5] at hK0
       (repeat' (first | (apply cut_at 26; refine Stop.out ?_) | refine Za8 ?_ | refine Za1 ?_ | refine Za6 ?_ | (apply Za9; (first | exact Za3 rfl | exact Za4 rfl | (apply Zah; exact Zau rfl rfl)); exact rfl) | refine Zaa ?_ | refine Zag ?_ | (refine Zac rfl (fun hb => ?_) (fun hb => ?_) <;> (repeat (first | replace hb := Zam hb | replace hb := Zan hb)) <;> (try (exfalso; omega)))))
       all_goals (try (exfalso; omega))
       refine ⟨WP_cutR 26 (fun _ : Unit => ([(2, ex (.pointer (some ⟨b2, 0, none⟩))), (4, fpx b4 [fmap M0]), (6, fmap M2), (7, fpx b7 [fmap M3]), (16, ex (.pointer (some ⟨bl, 0, none⟩))), (17, fpx b17 [ex (FIND bl)]), (18, fpx b18 [ex (EXPR b17 b4 b7 b18)]), (20, ex (.pointer (some ⟨bT, 0 + n * 2, none⟩))), (115, exI .i64 (r.ties.length : Int)), (116, exI .i64 (n : Int)), (135, exI .i64 (r.ties[n].keys.length : Int)), (136, exI .i64 (q : Int)), (21, exI .i64 (q : Int)), (22, fmap M2), (23, exB true)], [row bK 42 (c3 * 3) (K.flatMap keyV), row bT 40 (c1 * 2) PS, vec (.slice oa2 r.rounds.length c2) 48 13 r.rounds.length (r.rounds.flatMap (roundV k)), row bl 4 1 [exB lo2], row b2 28 9 [exT r.name, isl eCrit r.crits, isl eItem r.bonus, isl eItem r.malus, ex (.slice (some ⟨bT, 0, none⟩) r.ties.length c1), ex (.slice oa2 r.rounds.length c2), isl eI r.prizes, isl eI r.points, exI .i64 r.best]])) (fun _ => True) ?_ fun _ _ => ?_⟩
       · skip
         (refine Zbx 22 rfl ?_)
         (apply Zb0 1 rfl (by decide +kernel) rfl (by decide +kernel) (by repeat (first | exact Za5)) Za0; (first | (apply Za7; first | exact Zcf rfl rfl)); exact rfl)
         (apply Zb0 3 rfl (by decide +kernel) rfl (by decide +kernel) (by repeat (first | exact Za5)) Za0; (first | (apply Za7; first | exact Zcf rfl rfl)); exact rfl)
         (apply Za2 5 rfl (by decide +kernel) rfl (by repeat (first | exact Za5)) Za0; (first | exact Za3 rfl); exact rfl)
         (apply Za2 8 rfl (by decide +kernel) rfl (by repeat (first | exact Za5)) Za0; (first | exact Za3 rfl); exact rfl)
         (apply Za2 9 rfl (by decide +kernel) rfl (by repeat (first | exact Za5)) Za0; (first | (apply Zcq; first | exact Zcm rfl)); exact rfl)
         (apply Za2 10 rfl (by decide +kernel) rfl (by repeat (first | exact Za5)) Za0; (first | (apply Zat; first | exact Zaf rfl rfl rfl)); exact rfl)
         (apply Zb0 11 rfl (by decide +kernel) rfl (by decide +kernel) (by repeat (exact Za5)) Za0; ((apply Za7; exact Zab (k := 1) rfl rfl (by assumption) rfl)); exact rfl)
         (apply Za2 12 rfl (by decide +kernel) rfl (by repeat (first | exact Za5)) Za0; (first | exact Za3 rfl); exact rfl)
         (apply Za2 13 rfl (by decide +kernel) rfl (by repeat (first | exact Za5)) Za0; (first | (apply Zak; first | exact Zc0 rfl rfl rfl)); exact rfl)
         (apply Za2 14 rfl (by decide +kernel) rfl (by repeat (first | exact Za5)) Za0; (first | (apply Zat; first | exact Zaf rfl rfl rfl)); exact rfl)
         (apply Zb0 15 rfl (by decide +kernel) rfl (by decide +kernel) (by repeat (exact Za5)) Za0; ((apply Za7; exact Zab (k := 0) rfl rfl (by assumption) rfl)); exact rfl)
         (refine Zap 0 (by decide +kernel) rfl Za0 (fun _ _ h => h) ?_)
         (first | (apply g_mkmap; refine WO_mkmap (κ := Int) ?_; intro _))
         (refine WPY_three 2 4 6 (by decide +kernel) rfl Za0 (fun _ _ h => h) rfl Za0 (fun _ _ h => h) rfl Za0 (fun _ _ h => h) ?_ ?_ ?_)
         ·
           (first | (apply Zbo; refine Zbc (κ := Int) (k := 1) (j := 0) (l0 := _) (.inr rfl) rfl rfl rfl rfl rfl rfl ⟨_, rfl⟩ ?_ (hH := List.Sublist.refl _)))
           (refine Zcg 4 6 (by decide +kernel) rfl Za0 (fun _ _ h => h) rfl Za0 (fun _ _ h => h) ?_ ?_)
           ·
             (first | (apply Zbo; refine Zbc (κ := Int) (k := 2) (j := 0) (l0 := _) (.inr rfl) rfl rfl rfl rfl rfl rfl ⟨_, rfl⟩ ?_ (hH := List.Sublist.refl _)))
             (refine Zap 6 (by decide +kernel) rfl Za0 (fun _ _ h => h) ?_)
             (first | (apply Zbo; refine Zbc (κ := Int) (k := 5) (j := 0) (l0 := _) (.inr rfl) rfl rfl rfl rfl rfl rfl ⟨_, rfl⟩ ?_ (hH := List.Sublist.refl _)))
             (apply Za2 7 rfl (by decide +kernel) rfl (by repeat (first | exact Za5)) Za0; (first | exact Za3 rfl); exact rfl)
             (refine Zap 16 (by decide +kernel) rfl Za0 (fun _ _ h => h) ?_)
             (first | (apply WO_t; (apply Zc4; exact Zcl (κ := Int) (k := 5) (j := 0) rfl rfl rfl rfl rfl rfl ⟨_, rfl⟩ trivial); exact rfl))
             (apply Za2 17 rfl (by decide +kernel) rfl (by repeat (first | exact Za5)) Za0; (first | exact Za3 rfl); exact rfl)
             (apply Za2 18 rfl (by decide +kernel) rfl (by repeat (first | exact Za5)) Za0; (first | exact Zb5 rfl rfl); exact rfl)
             (apply Za2 19 rfl (by decide +kernel) rfl (by repeat (first | exact Za5)) Za0; (first | exact Zb5 rfl rfl); exact rfl)
             (apply Za2 20 rfl (by decide +kernel) rfl (by repeat (first | exact Za5)) Za0; (first | exact Za4 rfl); exact rfl)
             (apply Za2 21 rfl (by decide +kernel) rfl (by repeat (first | exact Za5)) Za0; (first | exact Za4 rfl); exact rfl)
             refine Zb9 (by decide +kernel) ?_
             exact Zbp () trivial (Zbd 1 (by repeat (first | exact Zai | refine Zad rfl ?_)) rfl)
           ·
             (first | (apply Zbo; refine Zbc (κ := Int) (k := 5) (j := 0) (l0 := _) (.inr rfl) rfl rfl rfl rfl rfl rfl ⟨_, rfl⟩ ?_ (hH := List.Sublist.refl _)))
             (refine Zap 4 (by decide +kernel) rfl Za0 (fun _ _ h => h) ?_)
             (first | (apply Zbo; refine Zbc (κ := Int) (k := 2) (j := 0) (l0 := _) (.inr rfl) rfl rfl rfl rfl rfl rfl ⟨_, rfl⟩ ?_ (hH := List.Sublist.refl _)))
             (apply Za2 7 rfl (by decide +kernel) rfl (by repeat (first | exact Za5)) Za0; (first | exact Za3 rfl); exact rfl)
             (refine Zap 16 (by decide +kernel) rfl Za0 (fun _ _ h => h) ?_)
             (first | (apply WO_t; (apply Zc4; exact Zcl (κ := Int) (k := 5) (j := 0) rfl rfl rfl rfl rfl rfl ⟨_, rfl⟩ trivial); exact rfl))
             (apply Za2 17 rfl (by decide +kernel) rfl (by repeat (first | exact Za5)) Za0; (first | exact Za3 rfl); exact rfl)
             (apply Za2 18 rfl (by decide +kernel) rfl (by repeat (first | exact Za5)) Za0; (first | exact Zb5 rfl rfl); exact rfl)
             (apply Za2 19 rfl (by decide +kernel) rfl (by repeat (first | exact Za5)) Za0; (first | exact Zb5 rfl rfl); exact rfl)
             (apply Za2 20 rfl (by decide +kernel) rfl (by repeat (first | exact Za5)) Za0; (first | exact Za4 rfl); exact rfl)
             (apply Za2 21 rfl (by decide +kernel) rfl (by repeat (first | exact Za5)) Za0; (first | exact Za4 rfl); exact rfl)
             refine Zb9 (by decide +kernel) ?_
             exact Zbp () trivial (Zbd 1 (by repeat (first | exact Zai | refine Zad rfl ?_)) rfl)
         ·
           (first | (apply Zbo; refine Zbc (κ := Int) (k := 2) (j := 0) (l0 := _) (.inr rfl) rfl rfl rfl rfl rfl rfl ⟨_, rfl⟩ ?_ (hH := List.Sublist.refl _)))
           (refine Zcg 2 6 (by decide +kernel) rfl Za0 (fun _ _ h => h) rfl Za0 (fun _ _ h => h) ?_ ?_)
           ·
             (first | (apply Zbo; refine Zbc (κ := Int) (k := 1) (j := 0) (l0 := _) (.inr rfl) rfl rfl rfl rfl rfl rfl ⟨_, rfl⟩ ?_ (hH := List.Sublist.refl _)))
             (refine Zap 6 (by decide +kernel) rfl Za0 (fun _ _ h => h) ?_)
             (first | (apply Zbo; refine Zbc (κ := Int) (k := 5) (j := 0) (l0 := _) (.inr rfl) rfl rfl rfl rfl rfl rfl ⟨_, rfl⟩ ?_ (hH := List.Sublist.refl _)))
             (apply Za2 7 rfl (by decide +kernel) rfl (by repeat (first | exact Za5)) Za0; (first | exact Za3 rfl); exact rfl)
             (refine Zap 16 (by decide +kernel) rfl Za0 (fun _ _ h => h) ?_)
             (first | (apply WO_t; (apply Zc4; exact Zcl (κ := Int) (k := 5) (j := 0) rfl rfl rfl rfl rfl rfl ⟨_, rfl⟩ trivial); exact rfl))
             (apply Za2 17 rfl (by decide +kernel) rfl (by repeat (first | exact Za5)) Za0; (first | exact Za3 rfl); exact rfl)
             (apply Za2 18 rfl (by decide +kernel) rfl (by repeat (first | exact Za5)) Za0; (first | exact Zb5 rfl rfl); exact rfl)
             (apply Za2 19 rfl (by decide +kernel) rfl (by repeat (first | exact Za5)) Za0; (first | exact Zb5 rfl rfl); exact rfl)
             (apply Za2 20 rfl (by decide +kernel) rfl (by repeat (first | exact Za5)) Za0; (first | exact Za4 rfl); exact rfl)
             (apply Za2 21 rfl (by decide +kernel) rfl (by repeat (first | exact Za5)) Za0; (first | exact Za4 rfl); exact rfl)
             refine Zb9 (by decide +kernel) ?_
             exact Zbp () trivial (Zbd 1 (by repeat (first | exact Zai | refine Zad rfl ?_)) rfl)
           ·
             (first | (apply Zbo; refine Zbc (κ := Int) (k := 5) (j := 0) (l0 := _) (.inr rfl) rfl rfl rfl rfl rfl rfl ⟨_, rfl⟩ ?_ (hH := List.Sublist.refl _)))
             (refine Zap 2 (by decide +kernel) rfl Za0 (fun _ _ h => h) ?_)
             (first | (apply Zbo; refine Zbc (κ := Int) (k := 1) (j := 0) (l0 := _) (.inr rfl) rfl rfl rfl rfl rfl rfl ⟨_, rfl⟩ ?_ (hH := List.Sublist.refl _)))
             (apply Za2 7 rfl (by decide +kernel) rfl (by repeat (first | exact Za5)) Za0; (first | exact Za3 rfl); exact rfl)
             (refine Zap 16 (by decide +kernel) rfl Za0 (fun _ _ h => h) ?_)
             (first | (apply WO_t; (apply Zc4; exact Zcl (κ := Int) (k := 5) (j := 0) rfl rfl rfl rfl rfl rfl ⟨_, rfl⟩ trivial); exact rfl))
             (apply Za2 17 rfl (by decide +kernel) rfl (by repeat (first | exact Za5)) Za0; (first | exact Za3 rfl); exact rfl)
             (apply Za2 18 rfl (by decide +kernel) rfl (by repeat (first | exact Za5)) Za0; (first | exact Zb5 rfl rfl); exact rfl)
             (apply Za2 19 rfl (by decide +kernel) rfl (by repeat (first | exact Za5)) Za0; (first | exact Zb5 rfl rfl); exact rfl)
             (apply Za2 20 rfl (by decide +kernel) rfl (by repeat (first | exact Za5)) Za0; (first | exact Za4 rfl); exact rfl)
             (apply Za2 21 rfl (by decide +kernel) rfl (by repeat (first | exact Za5)) Za0; (first | exact Za4 rfl); exact rfl)
             refine Zb9 (by decide +kernel) ?_
             exact Zbp () trivial (Zbd 1 (by repeat (first | exact Zai | refine Zad rfl ?_)) rfl)
         ·
           (first | (apply Zbo; refine Zbc (κ := Int) (k := 5) (j := 0) (l0 := _) (.inr rfl) rfl rfl rfl rfl rfl rfl ⟨_, rfl⟩ ?_ (hH := List.Sublist.refl _)))
           (refine Zcg 2 4 (by decide +kernel) rfl Za0 (fun _ _ h => h) rfl Za0 (fun _ _ h => h) ?_ ?_)
           ·
             (first | (apply Zbo; refine Zbc (κ := Int) (k := 1) (j := 0) (l0 := _) (.inr rfl) rfl rfl rfl rfl rfl rfl ⟨_, rfl⟩ ?_ (hH := List.Sublist.refl _)))
             (refine Zap 4 (by decide +kernel) rfl Za0 (fun _ _ h => h) ?_)
             (first | (apply Zbo; refine Zbc (κ := Int) (k := 2) (j := 0) (l0 := _) (.inr rfl) rfl rfl rfl rfl rfl rfl ⟨_, rfl⟩ ?_ (hH := List.Sublist.refl _)))
             (apply Za2 7 rfl (by decide +kernel) rfl (by repeat (first | exact Za5)) Za0; (first | exact Za3 rfl); exact rfl)
             (refine Zap 16 (by decide +kernel) rfl Za0 (fun _ _ h => h) ?_)
             (first | (apply WO_t; (apply Zc4; exact Zcl (κ := Int) (k := 5) (j := 0) rfl rfl rfl rfl rfl rfl ⟨_, rfl⟩ trivial); exact rfl))
             (apply Za2 17 rfl (by decide +kernel) rfl (by repeat (first | exact Za5)) Za0; (first | exact Za3 rfl); exact rfl)
             (apply Za2 18 rfl (by decide +kernel) rfl (by repeat (first | exact Za5)) Za0; (first | exact Zb5 rfl rfl); exact rfl)
             (apply Za2 19 rfl (by decide +kernel) rfl (by repeat (first | exact Za5)) Za0; (first | exact Zb5 rfl rfl); exact rfl)
             (apply Za2 20 rfl (by decide +kernel) rfl (by repeat (first | exact Za5)) Za0; (first | exact Za4 rfl); exact rfl)
             (apply Za2 21 rfl (by decide +kernel) rfl (by repeat (first | exact Za5)) Za0; (first | exact Za4 rfl); exact rfl)
             refine Zb9 (by decide +kernel) ?_
             exact Zbp () trivial (Zbd 1 (by repeat (first | exact Zai | refine Zad rfl ?_)) rfl)
           ·
             (first | (apply Zbo; refine Zbc (κ := Int) (k := 2) (j := 0) (l0 := _) (.inr rfl) rfl rfl rfl rfl rfl rfl ⟨_, rfl⟩ ?_ (hH := List.Sublist.refl _)))
             (refine Zap 2 (by decide +kernel) rfl Za0 (fun _ _ h => h) ?_)
             (first | (apply Zbo; refine Zbc (κ := Int) (k := 1) (j := 0) (l0 := _) (.inr rfl) rfl rfl rfl rfl rfl rfl ⟨_, rfl⟩ ?_ (hH := List.Sublist.refl _)))
             (apply Za2 7 rfl (by decide +kernel) rfl (by repeat (first | exact Za5)) Za0; (first | exact Za3 rfl); exact rfl)
             (refine Zap 16 (by decide +kernel) rfl Za0 (fun _ _ h => h) ?_)
             (first | (apply WO_t; (apply Zc4; exact Zcl (κ := Int) (k := 5) (j := 0) rfl rfl rfl rfl rfl rfl ⟨_, rfl⟩ trivial); exact rfl))
             (apply Za2 17 rfl (by decide +kernel) rfl (by repeat (first | exact Za5)) Za0; (first | exact Za3 rfl); exact rfl)
             (apply Za2 18 rfl (by decide +kernel) rfl (by repeat (first | exact Za5)) Za0; (first | exact Zb5 rfl rfl); exact rfl)
             (apply Za2 19 rfl (by decide +kernel) rfl (by repeat (first | exact Za5)) Za0; (first | exact Zb5 rfl rfl); exact rfl)
             (apply Za2 20 rfl (by decide +kernel) rfl (by repeat (first | exact Za5)) Za0; (first | exact Za4 rfl); exact rfl)
             (apply Za2 21 rfl (by decide +kernel) rfl (by repeat (first | exact Za5)) Za0; (first | exact Za4 rfl); exact rfl)
             refine Zb9 (by decide +kernel) ?_
             exact Zbp () trivial (Zbd 1 (by repeat (first | exact Zai | refine Zad rfl ?_)) rfl)
       have ek : r.keyL key.kind key.name = some (Ex.lookF r.n2 key.name) := by unfold RulesD.keyL; rw [if_neg hk1, if_neg hk2, if_pos hk5]
       have eP : r.keyP key = { key with n := (Ex.lookF r.n2 key.name).getD 0 } := by unfold RulesD.keyP; rw [ek]
       have eQ : (!r.keyPok key) = (Ex.lookF r.n2 key.name).isNone := by
         unfold RulesD.keyPok; rw [ek]; cases Ex.lookF r.n2 key.name <;> rfl
       rw [eP] at eK
       have hfnd := find_any M2 key.name (Ex.lookF r.n2 key.name) bl lo2 (h2 _)
       (repeat' (first | (apply Zbh 28; refine Stop.out ?_) | refine Za8 ?_ | refine Za1 ?_ | refine Za6 ?_ | (apply Za9; (exact Za3 rfl); exact rfl) | refine Zb4 rfl ?_))
       constructor
       refine WP_cut1 (fun _ : Unit => ([(2, ex (.pointer (some ⟨b2, 0, none⟩))), (4, fpx b4 [fmap M0]), (6, fmap M2), (7, fpx b7 [fmap M3]), (16, ex (.pointer (some ⟨bl, 0, none⟩))), (17, fpx b17 [ex (FIND bl)]), (18, fpx b18 [ex (EXPR b17 b4 b7 b18)]), (20, ex (.pointer (some ⟨bT, 0 + n * 2, none⟩))), (115, exI .i64 (r.ties.length : Int)), (116, exI .i64 (n : Int)), (135, exI .i64 (r.ties[n].keys.length : Int)), (136, exI .i64 (q : Int))], [row bl 4 1 [exB (lo2 || (Ex.lookF r.n2 key.name).isNone)], row bK 42 (c3 * 3) ((K.flatMap keyV).set (0 + q * 3 + 2) (exI .i64 ((Ex.lookF r.n2 key.name).getD 0))), row bT 40 (c1 * 2) PS, vec (.slice oa2 r.rounds.length c2) 48 13 r.rounds.length (r.rounds.flatMap (roundV k)), row b2 28 9 [exT r.name, isl eCrit r.crits, isl eItem r.bonus, isl eItem r.malus, ex (.slice (some ⟨bT, 0, none⟩) r.ties.length c1), ex (.slice oa2 r.rounds.length c2), isl eI r.prizes, isl eI r.points, exI .i64 r.best]])) (fun _ => True) ?_ fun _ _ => ?_
       · skip
         (refine Zbx 15 rfl ?_)
         (apply Za2 0 rfl (by decide +kernel) rfl (by repeat (first | exact Za5)) Za0; (first | exact Za3 rfl); exact rfl)
         (apply Za2 1 rfl (by decide +kernel) rfl (by repeat (first | exact Za5)) Za0; (first | (apply Zcq; first | exact Zcm rfl)); exact rfl)
         (apply Za2 2 rfl (by decide +kernel) rfl (by repeat (first | exact Za5)) Za0; (first | (apply Zat; first | exact Zaf rfl rfl rfl)); exact rfl)
         (apply Za2 4 rfl (by decide +kernel) rfl (by repeat (first | exact Za5)) Za0; (first | exact Za3 rfl); exact rfl)
         (apply Zb0 5 rfl (by decide +kernel) rfl (by decide +kernel) (by repeat (first | exact Za5)) Za0; (first | (apply Za7; first | exact Zcf rfl rfl)); exact rfl)
         (apply Za2 6 rfl (by decide +kernel) rfl (by repeat (first | exact Za5)) Za0; (first | exact Za3 rfl); exact rfl)
         (apply Za2 7 rfl (by decide +kernel) rfl (by repeat (first | exact Za5)) Za0; (first | exact Za3 rfl); exact rfl)
         (apply Za2 8 rfl (by decide +kernel) rfl (by repeat (first | exact Za5)) Za0; (first | (apply Zcq; first | exact Zcm rfl)); exact rfl)
         (apply Za2 9 rfl (by decide +kernel) rfl (by repeat (first | exact Za5)) Za0; (first | (apply Zat; first | exact Zaf rfl rfl rfl)); exact rfl)
         (apply Za2 11 rfl (by decide +kernel) rfl (by repeat (first | exact Za5)) Za0; (first | exact Za3 rfl); exact rfl)
         (refine Zcg (H1 := fun _ => True) (H2 := fun _ => True) 3 10 (by decide +kernel) rfl Za0 (fun _ _ _ => trivial) rfl Za0 (fun _ _ _ => trivial) ?_ ?_)
         ·
           ((apply WO_t (H := fun _ => True); (first | (apply Za7; first | exact Zab (k := 1) rfl rfl (by assumption) rfl)); exact rfl))
           (refine Zap (H' := fun _ => True) 10 (by decide +kernel) rfl Za0 (fun _ _ _ => trivial) ?_)
           ((apply WO_t (H := fun _ => True); (first | (apply Za7; first | exact Zab (k := 1) rfl rfl (by assumption) rfl)); exact rfl))
           (apply Za2 12 rfl (by decide +kernel) rfl (by repeat (first | exact Za5)) Za0; (first | (apply Zak; first | exact Zc0 rfl rfl rfl)); exact rfl)
           (apply Za2 13 rfl (by decide +kernel) rfl (by repeat (first | exact Za5)) Za0; (first | (apply Zat; first | exact Zaf rfl rfl rfl)); exact rfl)
           (apply Zb0 14 rfl (by decide +kernel) rfl (by decide +kernel) (by repeat (exact Za5)) Za0; ((apply Za7; exact Zab (k := 0) rfl rfl (by assumption) rfl)); exact rfl)
           (refine Zap (H' := feet []) 15 (by decide +kernel) rfl Za0 (fun h => absurd h (by decide)) ?_)
           ((apply Zao; (refine WO_callvG (vs := [.pointer (some ⟨bl, 0, none⟩)]) (caps := [ex (.pointer (some ⟨bl, 0, none⟩))]) (args := [_, _]) rfl (.ex .nil) (.one 3 rfl .nil) Tryz.func57 rfl hfnd rfl ?_; rintro _ _ ⟨rfl, rfl⟩)))
           (refine Zap (H' := fun _ => True) 16 (by decide +kernel) rfl Za0 (fun _ _ _ => trivial) ?_)
           ((apply WO_t (H := fun _ => True); (first | (apply Zak; first | exact Zc0 rfl rfl rfl)); exact rfl))
           (refine Zap (H' := fun _ => True) 17 (by decide +kernel) rfl Za0 (fun _ _ _ => trivial) ?_)
           ((apply WO_t (H := fun _ => True); (first | (apply Zat; first | exact Zaf rfl rfl rfl)); exact rfl))
           (refine Zap (H' := feet []) 18 (by decide +kernel) rfl Za0 (fun h => absurd h (by decide)) ?_)
           (first | (apply Zav; first | refine WO_store1 (k := 1) (l0 := []) rfl rfl rfl ?_))
           refine Zb9 (by decide +kernel) ?_
           exact Zbp () trivial (Zae (by repeat (first | exact Zai | refine Zad rfl ?_)) (List.Sublist.refl _))
         ·
           ((apply WO_t (H := fun _ => True); (first | (apply Za7; first | exact Zab (k := 1) rfl rfl (by assumption) rfl)); exact rfl))
           (apply Za2 12 rfl (by decide +kernel) rfl (by repeat (first | exact Za5)) Za0; (first | (apply Zak; first | exact Zc0 rfl rfl rfl)); exact rfl)
           (apply Za2 13 rfl (by decide +kernel) rfl (by repeat (first | exact Za5)) Za0; (first | (apply Zat; first | exact Zaf rfl rfl rfl)); exact rfl)
           (apply Zb0 14 rfl (by decide +kernel) rfl (by decide +kernel) (by repeat (exact Za5)) Za0; ((apply Za7; exact Zab (k := 0) rfl rfl (by assumption) rfl)); exact rfl)
           (refine Zcg (H1 := fun _ => True) (H2 := feet []) 3 15 (by decide +kernel) rfl Za0 (fun _ _ _ => trivial) rfl Za0 (fun h => absurd h (by decide)) ?_ ?_)
           ·
             ((apply WO_t (H := fun _ => True); (first | (apply Za7; first | exact Zab (k := 1) rfl rfl (by assumption) rfl)); exact rfl))
             (refine Zap (H' := feet []) 15 (by decide +kernel) rfl Za0 (fun h => absurd h (by decide)) ?_)
             ((apply Zao; (refine WO_callvG (vs := [.pointer (some ⟨bl, 0, none⟩)]) (caps := [ex (.pointer (some ⟨bl, 0, none⟩))]) (args := [_, _]) rfl (.ex .nil) (.one 3 rfl .nil) Tryz.func57 rfl hfnd rfl ?_; rintro _ _ ⟨rfl, rfl⟩)))
             (refine Zap (H' := fun _ => True) 16 (by decide +kernel) rfl Za0 (fun _ _ _ => trivial) ?_)
             ((apply WO_t (H := fun _ => True); (first | (apply Zak; first | exact Zc0 rfl rfl rfl)); exact rfl))
             (refine Zap (H' := fun _ => True) 17 (by decide +kernel) rfl Za0 (fun _ _ _ => trivial) ?_)
             ((apply WO_t (H := fun _ => True); (first | (apply Zat; first | exact Zaf rfl rfl rfl)); exact rfl))
             (refine Zap (H' := feet []) 18 (by decide +kernel) rfl Za0 (fun h => absurd h (by decide)) ?_)
             (first | (apply Zav; first | refine WO_store1 (k := 1) (l0 := []) rfl rfl rfl ?_))
             refine Zb9 (by decide +kernel) ?_
             exact Zbp () trivial (Zae (by repeat (first | exact Zai | refine Zad rfl ?_)) (List.Sublist.refl _))
           ·
             ((apply Zao; (refine WO_callvG (vs := [.pointer (some ⟨bl, 0, none⟩)]) (caps := [ex (.pointer (some ⟨bl, 0, none⟩))]) (args := [_, _]) rfl (.ex .nil) (.one 3 rfl .nil) Tryz.func57 rfl hfnd rfl ?_; rintro _ _ ⟨rfl, rfl⟩)))
             (refine Zap (H' := fun _ => True) 3 (by decide +kernel) rfl Za0 (fun _ _ _ => trivial) ?_)
             ((apply WO_t (H := fun _ => True); (first | (apply Za7; first | exact Zab (k := 2) rfl rfl (by assumption) rfl)); exact rfl))
             (refine Zap (H' := fun _ => True) 16 (by decide +kernel) rfl Za0 (fun _ _ _ => trivial) ?_)
             ((apply WO_t (H := fun _ => True); (first | (apply Zak; first | exact Zc0 rfl rfl rfl)); exact rfl))
             (refine Zap (H' := fun _ => True) 17 (by decide +kernel) rfl Za0 (fun _ _ _ => trivial) ?_)
             ((apply WO_t (H := fun _ => True); (first | (apply Zat; first | exact Zaf rfl rfl rfl)); exact rfl))
             (refine Zap (H' := feet []) 18 (by decide +kernel) rfl Za0 (fun h => absurd h (by decide)) ?_)
             (first | (apply Zav; first | refine WO_store1 (k := 1) (l0 := []) rfl rfl rfl ?_))
             refine Zb9 (by decide +kernel) ?_
             exact Zbp () trivial (Zae (by repeat (first | exact Zai | refine Zad rfl ?_)) (List.Sublist.refl _))
       (repeat' (first | refine Za1 ?_ | refine Za6 ?_ | (apply Za9; (first | exact Za3 rfl | (apply Zah; first | exact Zbf rfl rfl)); exact rfl)))
       refine ⟨q + 1, by omega, by omega, ?_⟩
       rw [eK, eB, eQ, ← hKset]
       refine (Leads_perm ((List.perm_append_comm (l₁ := [_]) (l₂ := [_, _, _])).append_right [_])).trans ?_
       refine Leads_row_vec (k := 0) (sz := 3) (n := r.ties[n].keys.length) (c := c3) rfl rfl ?_ (by decide) hcm3 ?_
       · rw [List.length_set, hKn, hKl]
       exact Zae (by repeat (first | exact Zai | refine Zad rfl ?_)) (List.Sublist.refl _)
     (repeat' (first | (apply cut_at 26; refine Stop.out ?_) | refine Za8 ?_ | refine Za1 ?_ | refine Za6 ?_ | (apply Za9; (first | exact Za3 rfl | exact Za4 rfl | (apply Zah; exact Zau rfl rfl)); exact rfl) | refine Zaa ?_ | refine Zag ?_ | (refine Zac rfl (fun hb => ?_) (fun hb => ?_) <;> (repeat (first | replace hb := Zam hb | replace hb := Zan hb)) <;> (try (exfalso; omega)))))
     all_goals (try (exfalso; omega))
     refine ⟨WP_cutR 26 (fun _ : Unit => ([(2, ex (.pointer (some ⟨b2, 0, none⟩))), (4, fpx b4 [fmap M0]), (6, fmap M2), (7, fpx b7 [fmap M3]), (16, ex (.pointer (some ⟨bl, 0, none⟩))), (17, fpx b17 [ex (FIND bl)]), (18, fpx b18 [ex (EXPR b17 b4 b7 b18)]), (20, ex (.pointer (some ⟨bT, 0 + n * 2, none⟩))), (115, exI .i64 (r.ties.length : Int)), (116, exI .i64 (n : Int)), (135, exI .i64 (r.ties[n].keys.length : Int)), (136, exI .i64 (q : Int)), (21, exI .i64 (q : Int)), (22, ex (.map none)), (23, exB false)], [row bK 42 (c3 * 3) (K.flatMap keyV), row bT 40 (c1 * 2) PS, vec (.slice oa2 r.rounds.length c2) 48 13 r.rounds.length (r.rounds.flatMap (roundV k)), row bl 4 1 [exB lo2], row b2 28 9 [exT r.name, isl eCrit r.crits, isl eItem r.bonus, isl eItem r.malus, ex (.slice (some ⟨bT, 0, none⟩) r.ties.length c1), ex (.slice oa2 r.rounds.length c2), isl eI r.prizes, isl eI r.points, exI .i64 r.best]])) (fun _ => True) ?_ fun _ _ => ?_⟩
     · skip
       (refine Zbx 22 rfl ?_)
       (apply Zb0 1 rfl (by decide +kernel) rfl (by decide +kernel) (by repeat (first | exact Za5)) Za0; (first | (apply Za7; first | exact Zcf rfl rfl)); exact rfl)
       (apply Zb0 3 rfl (by decide +kernel) rfl (by decide +kernel) (by repeat (first | exact Za5)) Za0; (first | (apply Za7; first | exact Zcf rfl rfl)); exact rfl)
       (apply Za2 5 rfl (by decide +kernel) rfl (by repeat (first | exact Za5)) Za0; (first | exact Za3 rfl); exact rfl)
       (apply Za2 8 rfl (by decide +kernel) rfl (by repeat (first | exact Za5)) Za0; (first | exact Za3 rfl); exact rfl)
       (apply Za2 9 rfl (by decide +kernel) rfl (by repeat (first | exact Za5)) Za0; (first | (apply Zcq; first | exact Zcm rfl)); exact rfl)
       (apply Za2 10 rfl (by decide +kernel) rfl (by repeat (first | exact Za5)) Za0; (first | (apply Zat; first | exact Zaf rfl rfl rfl)); exact rfl)
       (apply Zb0 11 rfl (by decide +kernel) rfl (by decide +kernel) (by repeat (exact Za5)) Za0; ((apply Za7; exact Zab (k := 1) rfl rfl (by assumption) rfl)); exact rfl)
       (apply Za2 12 rfl (by decide +kernel) rfl (by repeat (first | exact Za5)) Za0; (first | exact Za3 rfl); exact rfl)
       (apply Za2 13 rfl (by decide +kernel) rfl (by repeat (first | exact Za5)) Za0; (first | (apply Zak; first | exact Zc0 rfl rfl rfl)); exact rfl)
       (apply Za2 14 rfl (by decide +kernel) rfl (by repeat (first | exact Za5)) Za0; (first | (apply Zat; first | exact Zaf rfl rfl rfl)); exact rfl)
       (apply Zb0 15 rfl (by decide +kernel) rfl (by decide +kernel) (by repeat (exact Za5)) Za0; ((apply Za7; exact Zab (k := 0) rfl rfl (by assumption) rfl)); exact rfl)
       (refine Zap 0 (by decide +kernel) rfl Za0 (fun _ _ h => h) ?_)
       (first | (apply g_mkmap; refine WO_mkmap (κ := Int) ?_; intro _))
       (refine WPY_three 2 4 6 (by decide +kernel) rfl Za0 (fun _ _ h => h) rfl Za0 (fun _ _ h => h) rfl Za0 (fun _ _ h => h) ?_ ?_ ?_)
       ·
         (first | (apply Zbo; refine Zbc (κ := Int) (k := 1) (j := 0) (l0 := _) (.inr rfl) rfl rfl rfl rfl rfl rfl ⟨_, rfl⟩ ?_ (hH := List.Sublist.refl _)))
         (refine Zcg 4 6 (by decide +kernel) rfl Za0 (fun _ _ h => h) rfl Za0 (fun _ _ h => h) ?_ ?_)
         ·
           (first | (apply Zbo; refine Zbc (κ := Int) (k := 2) (j := 0) (l0 := _) (.inr rfl) rfl rfl rfl rfl rfl rfl ⟨_, rfl⟩ ?_ (hH := List.Sublist.refl _)))
           (refine Zap 6 (by decide +kernel) rfl Za0 (fun _ _ h => h) ?_)
           (first | (apply Zbo; refine Zbc (κ := Int) (k := 5) (j := 0) (l0 := _) (.inr rfl) rfl rfl rfl rfl rfl rfl ⟨_, rfl⟩ ?_ (hH := List.Sublist.refl _)))
           (apply Za2 7 rfl (by decide +kernel) rfl (by repeat (first | exact Za5)) Za0; (first | exact Za3 rfl); exact rfl)
           (refine Zap 16 (by decide +kernel) rfl Za0 (fun _ _ h => h) ?_)
           (first | (apply WO_t; (apply Zc4; exact WT_looko0 (κ := Int) (k := key.kind) (j := 0) rfl rfl rfl (by simp [mput, mlook, hk1, hk2, hk5]) rfl rfl ⟨_, rfl⟩ trivial); exact rfl))
           (apply Za2 17 rfl (by decide +kernel) rfl (by repeat (first | exact Za5)) Za0; (first | exact Za3 rfl); exact rfl)
           (apply Za2 18 rfl (by decide +kernel) rfl (by repeat (first | exact Za5)) Za0; (first | exact Zb5 rfl rfl); exact rfl)
           (apply Za2 19 rfl (by decide +kernel) rfl (by repeat (first | exact Za5)) Za0; (first | exact Zb5 rfl rfl); exact rfl)
           (apply Za2 20 rfl (by decide +kernel) rfl (by repeat (first | exact Za5)) Za0; (first | exact Za4 rfl); exact rfl)
           (apply Za2 21 rfl (by decide +kernel) rfl (by repeat (first | exact Za5)) Za0; (first | exact Za4 rfl); exact rfl)
           refine Zb9 (by decide +kernel) ?_
           exact Zbp () trivial (Zbd 1 (by repeat (first | exact Zai | refine Zad rfl ?_)) rfl)
         ·
           (first | (apply Zbo; refine Zbc (κ := Int) (k := 5) (j := 0) (l0 := _) (.inr rfl) rfl rfl rfl rfl rfl rfl ⟨_, rfl⟩ ?_ (hH := List.Sublist.refl _)))
           (refine Zap 4 (by decide +kernel) rfl Za0 (fun _ _ h => h) ?_)
           (first | (apply Zbo; refine Zbc (κ := Int) (k := 2) (j := 0) (l0 := _) (.inr rfl) rfl rfl rfl rfl rfl rfl ⟨_, rfl⟩ ?_ (hH := List.Sublist.refl _)))
           (apply Za2 7 rfl (by decide +kernel) rfl (by repeat (first | exact Za5)) Za0; (first | exact Za3 rfl); exact rfl)
           (refine Zap 16 (by decide +kernel) rfl Za0 (fun _ _ h => h) ?_)
           (first | (apply WO_t; (apply Zc4; exact WT_looko0 (κ := Int) (k := key.kind) (j := 0) rfl rfl rfl (by simp [mput, mlook, hk1, hk2, hk5]) rfl rfl ⟨_, rfl⟩ trivial); exact rfl))
           (apply Za2 17 rfl (by decide +kernel) rfl (by repeat (first | exact Za5)) Za0; (first | exact Za3 rfl); exact rfl)
           (apply Za2 18 rfl (by decide +kernel) rfl (by repeat (first | exact Za5)) Za0; (first | exact Zb5 rfl rfl); exact rfl)
           (apply Za2 19 rfl (by decide +kernel) rfl (by repeat (first | exact Za5)) Za0; (first | exact Zb5 rfl rfl); exact rfl)
           (apply Za2 20 rfl (by decide +kernel) rfl (by repeat (first | exact Za5)) Za0; (first | exact Za4 rfl); exact rfl)
           (apply Za2 21 rfl (by decide +kernel) rfl (by repeat (first | exact Za5)) Za0; (first | exact Za4 rfl); exact rfl)
           refine Zb9 (by decide +kernel) ?_
           exact Zbp () trivial (Zbd 1 (by repeat (first | exact Zai | refine Zad rfl ?_)) rfl)
       ·
         (first | (apply Zbo; refine Zbc (κ := Int) (k := 2) (j := 0) (l0 := _) (.inr rfl) rfl rfl rfl rfl rfl rfl ⟨_, rfl⟩ ?_ (hH := List.Sublist.refl _)))
         (refine Zcg 2 6 (by decide +kernel) rfl Za0 (fun _ _ h => h) rfl Za0 (fun _ _ h => h) ?_ ?_)
         ·
           (first | (apply Zbo; refine Zbc (κ := Int) (k := 1) (j := 0) (l0 := _) (.inr rfl) rfl rfl rfl rfl rfl rfl ⟨_, rfl⟩ ?_ (hH := List.Sublist.refl _)))
           (refine Zap 6 (by decide +kernel) rfl Za0 (fun _ _ h => h) ?_)
           (first | (apply Zbo; refine Zbc (κ := Int) (k := 5) (j := 0) (l0 := _) (.inr rfl) rfl rfl rfl rfl rfl rfl ⟨_, rfl⟩ ?_ (hH := List.Sublist.refl _)))
           (apply Za2 7 rfl (by decide +kernel) rfl (by repeat (first | exact Za5)) Za0; (first | exact Za3 rfl); exact rfl)
           (refine Zap 16 (by decide +kernel) rfl Za0 (fun _ _ h => h) ?_)
           (first | (apply WO_t; (apply Zc4; exact WT_looko0 (κ := Int) (k := key.kind) (j := 0) rfl rfl rfl (by simp [mput, mlook, hk1, hk2, hk5]) rfl rfl ⟨_, rfl⟩ trivial); exact rfl))
           (apply Za2 17 rfl (by decide +kernel) rfl (by repeat (first | exact Za5)) Za0; (first | exact Za3 rfl); exact rfl)
           (apply Za2 18 rfl (by decide +kernel) rfl (by repeat (first | exact Za5)) Za0; (first | exact Zb5 rfl rfl); exact rfl)
           (apply Za2 19 rfl (by decide +kernel) rfl (by repeat (first | exact Za5)) Za0; (first | exact Zb5 rfl rfl); exact rfl)
           (apply Za2 20 rfl (by decide +kernel) rfl (by repeat (first | exact Za5)) Za0; (first | exact Za4 rfl); exact rfl)
           (apply Za2 21 rfl (by decide +kernel) rfl (by repeat (first | exact Za5)) Za0; (first | exact Za4 rfl); exact rfl)
           refine Zb9 (by decide +kernel) ?_
           exact Zbp () trivial (Zbd 1 (by repeat (first | exact Zai | refine Zad rfl ?_)) rfl)
         ·
           (first | (apply Zbo; refine Zbc (κ := Int) (k := 5) (j := 0) (l0 := _) (.inr rfl) rfl rfl rfl rfl rfl rfl ⟨_, rfl⟩ ?_ (hH := List.Sublist.refl _)))
           (refine Zap 2 (by decide +kernel) rfl Za0 (fun _ _ h => h) ?_)
           (first | (apply Zbo; refine Zbc (κ := Int) (k := 1) (j := 0) (l0 := _) (.inr rfl) rfl rfl rfl rfl rfl rfl ⟨_, rfl⟩ ?_ (hH := List.Sublist.refl _)))
           (apply Za2 7 rfl (by decide +kernel) rfl (by repeat (first | exact Za5)) Za0; (first | exact Za3 rfl); exact rfl)
           (refine Zap 16 (by decide +kernel) rfl Za0 (fun _ _ h => h) ?_)
           (first | (apply WO_t; (apply Zc4; exact WT_looko0 (κ := Int) (k := key.kind) (j := 0) rfl rfl rfl (by simp [mput, mlook, hk1, hk2, hk5]) rfl rfl ⟨_, rfl⟩ trivial); exact rfl))
           (apply Za2 17 rfl (by decide +kernel) rfl (by repeat (first | exact Za5)) Za0; (first | exact Za3 rfl); exact rfl)
           (apply Za2 18 rfl (by decide +kernel) rfl (by repeat (first | exact Za5)) Za0; (first | exact Zb5 rfl rfl); exact rfl)
           (apply Za2 19 rfl (by decide +kernel) rfl (by repeat (first | exact Za5)) Za0; (first | exact Zb5 rfl rfl); exact rfl)
           (apply Za2 20 rfl (by decide +kernel) rfl (by repeat (first | exact Za5)) Za0; (first | exact Za4 rfl); exact rfl)
           (apply Za2 21 rfl (by decide +kernel) rfl (by repeat (first | exact Za5)) Za0; (first | exact Za4 rfl); exact rfl)
           refine Zb9 (by decide +kernel) ?_
           exact Zbp () trivial (Zbd 1 (by repeat (first | exact Zai | refine Zad rfl ?_)) rfl)
       ·
         (first | (apply Zbo; refine Zbc (κ := Int) (k := 5) (j := 0) (l0 := _) (.inr rfl) rfl rfl rfl rfl rfl rfl ⟨_, rfl⟩ ?_ (hH := List.Sublist.refl _)))
         (refine Zcg 2 4 (by decide +kernel) rfl Za0 (fun _ _ h => h) rfl Za0 (fun _ _ h => h) ?_ ?_)
         ·
           (first | (apply Zbo; refine Zbc (κ := Int) (k := 1) (j := 0) (l0 := _) (.inr rfl) rfl rfl rfl rfl rfl rfl ⟨_, rfl⟩ ?_ (hH := List.Sublist.refl _)))
           (refine Zap 4 (by decide +kernel) rfl Za0 (fun _ _ h => h) ?_)
           (first | (apply Zbo; refine Zbc (κ := Int) (k := 2) (j := 0) (l0 := _) (.inr rfl) rfl rfl rfl rfl rfl rfl ⟨_, rfl⟩ ?_ (hH := List.Sublist.refl _)))
           (apply Za2 7 rfl (by decide +kernel) rfl (by repeat (first | exact Za5)) Za0; (first | exact Za3 rfl); exact rfl)
           (refine Zap 16 (by decide +kernel) rfl Za0 (fun _ _ h => h) ?_)
           (first | (apply WO_t; (apply Zc4; exact WT_looko0 (κ := Int) (k := key.kind) (j := 0) rfl rfl rfl (by simp [mput, mlook, hk1, hk2, hk5]) rfl rfl ⟨_, rfl⟩ trivial); exact rfl))
           (apply Za2 17 rfl (by decide +kernel) rfl (by repeat (first | exact Za5)) Za0; (first | exact Za3 rfl); exact rfl)
           (apply Za2 18 rfl (by decide +kernel) rfl (by repeat (first | exact Za5)) Za0; (first | exact Zb5 rfl rfl); exact rfl)
           (apply Za2 19 rfl (by decide +kernel) rfl (by repeat (first | exact Za5)) Za0; (first | exact Zb5 rfl rfl); exact rfl)
           (apply Za2 20 rfl (by decide +kernel) rfl (by repeat (first | exact Za5)) Za0; (first | exact Za4 rfl); exact rfl)
           (apply Za2 21 rfl (by decide +kernel) rfl (by repeat (first | exact Za5)) Za0; (first | exact Za4 rfl); exact rfl)
           refine Zb9 (by decide +kernel) ?_
           exact Zbp () trivial (Zbd 1 (by repeat (first | exact Zai | refine Zad rfl ?_)) rfl)
         ·
           (first | (apply Zbo; refine Zbc (κ := Int) (k := 2) (j := 0) (l0 := _) (.inr rfl) rfl rfl rfl rfl rfl rfl ⟨_, rfl⟩ ?_ (hH := List.Sublist.refl _)))
           (refine Zap 2 (by decide +kernel) rfl Za0 (fun _ _ h => h) ?_)
           (first | (apply Zbo; refine Zbc (κ := Int) (k := 1) (j := 0) (l0 := _) (.inr rfl) rfl rfl rfl rfl rfl rfl ⟨_, rfl⟩ ?_ (hH := List.Sublist.refl _)))
           (apply Za2 7 rfl (by decide +kernel) rfl (by repeat (first | exact Za5)) Za0; (first | exact Za3 rfl); exact rfl)
           (refine Zap 16 (by decide +kernel) rfl Za0 (fun _ _ h => h) ?_)
           (first | (apply WO_t; (apply Zc4; exact WT_looko0 (κ := Int) (k := key.kind) (j := 0) rfl rfl rfl (by simp [mput, mlook, hk1, hk2, hk5]) rfl rfl ⟨_, rfl⟩ trivial); exact rfl))
           (apply Za2 17 rfl (by decide +kernel) rfl (by repeat (first | exact Za5)) Za0; (first | exact Za3 rfl); exact rfl)
           (apply Za2 18 rfl (by decide +kernel) rfl (by repeat (first | exact Za5)) Za0; (first | exact Zb5 rfl rfl); exact rfl)
           (apply Za2 19 rfl (by decide +kernel) rfl (by repeat (first | exact Za5)) Za0; (first | exact Zb5 rfl rfl); exact rfl)
           (apply Za2 20 rfl (by decide +kernel) rfl (by repeat (first | exact Za5)) Za0; (first | exact Za4 rfl); exact rfl)
           (apply Za2 21 rfl (by decide +kernel) rfl (by repeat (first | exact Za5)) Za0; (first | exact Za4 rfl); exact rfl)
           refine Zb9 (by decide +kernel) ?_
           exact Zbp () trivial (Zbd 1 (by repeat (first | exact Zai | refine Zad rfl ?_)) rfl)
     have ek : r.keyL key.kind key.name = none := by unfold RulesD.keyL; rw [if_neg hk1, if_neg hk2, if_neg hk5]
     have eP : r.keyP key = key := by unfold RulesD.keyP; rw [ek]
     have eQ : (!r.keyPok key) = false := by unfold RulesD.keyPok; rw [ek]; rfl
     rw [eP, show K.set q key = K by rw [← hKi]; exact List.set_getElem_self hqK] at eK
     (repeat' (first | refine Za8 ?_ | refine Za1 ?_ | refine Za6 ?_ | (apply Za9; (first | exact Za3 rfl | (apply Zah; exact Zbf rfl rfl)); exact rfl) | refine Zag ?_ | refine Zb8 rfl ?_))
     refine ⟨q + 1, by omega, by omega, ?_⟩
     rw [eK, eB, eQ, Bool.or_false]
     refine Leads_row_vec (k := 0) (sz := 3) (n := r.ties[n].keys.length) (c := c3) rfl rfl ?_ (by decide) hcm3 ?_
     · rw [hKn, hKl]
     exact Zae (by repeat (first | exact Zai | refine Zad rfl ?_)) (List.Sublist.refl _)
   · have hq2 : q = r.ties[n].keys.length := by omega
     subst hq2
     rw [List.take_length, List.drop_length, List.append_nil]
     (repeat' (first | refine Za8 ?_ | refine Za1 ?_ | refine Za6 ?_ | (apply Za9; (first | exact Za3 rfl | (apply Zah; first | exact Zau rfl rfl | exact Zbf rfl rfl)); exact rfl) | refine Zbk ?_ | (refine Zac rfl (fun hb => ?_) (fun hb => ?_) <;> (repeat (first | replace hb := Zam hb | replace hb := Zan hb)) <;> (try (exfalso; omega)))))
     refine ⟨n + 1, by omega, by omega, ?_⟩
     have e2 := hPS2 (r.tieP r.ties[n]) (by rw [hLi hnL]; rfl)
     have e3 : isl eKey (r.tieP r.ties[n]).keys = isl eKey (r.ties[n].keys.map r.keyP) := rfl
     rw [e3] at e2
     rw [eL, eA, ← e2]
     refine Leads.trans (Leads_fcell (j := 0) (k := 0) (i := 0 + n * 2 + 1) (E := eKey) (fs := keyV) (r.ties[n].keys.map r.keyP) rfl rfl rfl (List.length_map ..) rfl hPS1 (hby := by show _ * 32 ≤ _; omega)) ?_
     refine Leads_row_vec (k := 0) (sz := 2) (n := r.ties.length) (c := c1) rfl rfl ?_ (by decide) hcm ?_
     · rw [e2, length_flat (fs := tieV) (s := 2) (fun _ => rfl), List.length_set, hLl]
     exact Zae (by repeat (first | exact Zai | refine Zad rfl ?_)) (List.Sublist.refl _)
 · have hn2 : n = r.ties.length := by omega
   subst hn2
   rw [List.take_length, List.drop_length, List.append_nil]
   (repeat' (first | (apply cuts_at 31; refine Stop.out ?_) | refine Za8 ?_ | refine Za1 ?_ | refine Za6 ?_ | (apply Za9; ((apply Zah; exact Zau rfl rfl)); exact rfl) | refine Zbk ?_ | (refine Zac rfl (fun hb => ?_) (fun hb => ?_) <;> (repeat (first | replace hb := Zam hb | replace hb := Zan hb)) <;> (try (exfalso; omega)))))
   constructor
   refine Zbn (Leads_fcell (j := 0) (k := 2) (i := 4) (E := eTie) (fs := tieV) (r.ties.map r.tieP) rfl rfl rfl (List.length_map ..) rfl rfl (hby := by show _ * 40 ≤ _; omega)) ?_
   refine Zbn (Zae (env' := [(2, ex (.pointer (some ⟨b2, 0, none⟩))), (4, fpx b4 [fmap M0]), (6, fmap M2), (7, fpx b7 [fmap M3]), (16, ex (.pointer (some ⟨bl, 0, none⟩))), (17, fpx b17 [ex (FIND bl)]), (18, fpx b18 [ex (EXPR b17 b4 b7 b18)])]) (by repeat (first | exact Zai | refine Zad rfl ?_)) (List.Sublist.refl _)) ?_
   exact nres_rounds k r hf M0 M2 M3 h0 h2 h3 w0 F0 out b2 bl b4 b7 b17 b18 oa2 c2
end Go.Proofs.YthldagplhklbnaaGreatDoor
namespace Go.Proofs.YthldagplhklbnaaGreatDoor
open Go Go.RowKit Go.Kx Go.Fr
def pairV (p : Int × Int) : List SP := [exI .i64 p.1, exI .i64 p.2]
instance {p : Int × Int} : Scs (pairV p) := by unfold pairV; infer_instance
instance : LenS pairV 2 := ⟨fun _ => rfl⟩
abbrev ePair : Enc (Int × Int) := encS pairV 2 16
set_option maxRecDepth 100000 in
theorem within1_any (p : Int × Int) : FnC Tryz.prog 106 [agg (pairV p)] [] (fun q loc => q = exB (decide (p.2 < p.1)) ∧ loc = []) := by
 refine Zb7 Tryz.func106 rfl Tryz.ntmps106 rfl fun w0 F0 out => ?_
 (repeat' (first | refine Za8 ?_ | refine Za1 ?_ | refine Za6 ?_ | (apply Za9; (first | exact Za4 rfl | (apply Za7; exact Zab (k := 0) rfl rfl rfl rfl) | (apply Zat; exact Zaf rfl rfl rfl) | (apply Zah; exact Zcc rfl rfl)); exact rfl) | refine Zaq ?_ | (apply Zaj; exact rfl; (apply Zc9; refine Zbz rfl ?_; intro _))))
 exact ⟨.inr rfl, ret1 rfl (.tmp rfl) (List.nil_sublist _) ⟨rfl, rfl⟩⟩
def overF (l : List (Int × Int)) : Int := match l.findIdx? (fun p => decide (p.2 < p.1)) with
 | some i => i
 | none => -1
theorem overF_neg (l : List (Int × Int)) : decide (0 ≤ overF l) = l.any (fun p => decide (p.2 < p.1)) := by
 unfold overF
 cases h : l.findIdx? (fun p => decide (p.2 < p.1)) with
 | none =>
   rw [List.findIdx?_eq_none_iff] at h
   symm
   rw [show decide ((0 : Int) ≤ -1) = false from rfl, List.any_eq_false]
   intro x hx
   simpa using h x hx
 | some i =>
   obtain ⟨h1, h2, _⟩ := List.findIdx?_eq_some_iff_getElem.1 h
   symm
   rw [decide_eq_true (Int.natCast_nonneg i), List.any_eq_true]
   exact ⟨_, List.getElem_mem h1, h2⟩
set_option maxRecDepth 100000 in
theorem ifPair_any (l : List (Int × Int)) : FnC Tryz.prog 112 [isl ePair l, ex (.func (.func 106) #[] #[])] [] (fun q loc => q = exI .i64 (overF l) ∧ loc = []) := by
 refine Zbe (i := 0) rfl Zbl fun hl => ?_
 replace hl := hl.1
 simp only [maxLen] at hl
 refine Zb7 Tryz.func112 rfl Tryz.ntmps112 rfl fun w0 F0 out => ?_
 (repeat' (first | refine Za8 ?_ | refine Za1 ?_ | refine Za6 ?_ | (apply Za9; (first | exact Za3 rfl | exact Za4 rfl | (apply Zax; exact Zb3 rfl rfl)); exact rfl) | refine Zaa ?_))
 refine Zbv (fun i : Nat => ([(0, isl ePair l), (1, ex (.func (.func 106) #[] #[])), (7, exI .i64 (l.length : Int)), (8, exI .i64 (i : Int))], [])) (fun i => i ≤ l.length ∧ ∀ j (h : j < i) (h2 : j < l.length), ¬ (l[j]).2 < (l[j]).1) (fun i => l.length - i) 0 ?_ ⟨Nat.zero_le _, fun j h => absurd h (Nat.not_lt_zero j)⟩ fun i hi => ?_
 · exact Zae (by repeat (first | exact Zai | refine Zad rfl ?_)) (List.Sublist.refl _)
 obtain ⟨hi, hn⟩ := hi
 by_cases hlt : i < l.length
 · by_cases he : (l[i]).2 < (l[i]).1
   · (repeat' (first | refine Za8 ?_ | refine Za1 ?_ | refine Za6 ?_ | (apply Za9; (first | exact Za3 rfl | exact Za4 rfl | (apply Za7; exact Zb2 rfl rfl) | (apply Zah; exact Zau rfl rfl) | (apply Zak; exact Zar rfl rfl rfl)); exact rfl) | refine Zaa ?_ | refine Zag ?_ | refine Zaq ?_ | (apply Zaj; exact rfl; (apply Zao; (refine WO_callv (vs := []) (args := [agg (pairV l[i])]) rfl Tryz.func106 rfl (within1_any _) rfl ?_; rintro _ _ ⟨rfl, rfl⟩))) | (refine Zac rfl (fun hb => ?_) (fun hb => ?_) <;> (repeat (first | replace hb := Zam hb | replace hb := Zan hb)) <;> (try (exfalso; omega)))))
     all_goals (try (exfalso; first | contradiction | omega))
     refine ⟨.inr rfl, ret1 rfl (.tmp rfl) (List.nil_sublist _) ⟨congrArg (exI .i64) ?_, rfl⟩⟩
     have : l.findIdx? (fun p => decide (p.2 < p.1)) = some i := by
       rw [List.findIdx?_eq_some_iff_getElem]
       exact ⟨hlt, decide_eq_true he, fun j hj => by simpa using hn j hj (by omega)⟩
     unfold overF; rw [this]
   · (repeat' (first | refine Za8 ?_ | refine Za1 ?_ | refine Za6 ?_ | (apply Za9; (first | exact Za3 rfl | exact Za4 rfl | (apply Za7; exact Zb2 rfl rfl) | (apply Zah; first | exact Zau rfl rfl | exact Zbf rfl rfl) | (apply Zak; exact Zar rfl rfl rfl)); exact rfl) | refine Zaa ?_ | refine Zag ?_ | (apply Zaj; exact rfl; (apply Zao; (refine WO_callv (vs := []) (args := [agg (pairV l[i])]) rfl Tryz.func106 rfl (within1_any _) rfl ?_; rintro _ _ ⟨rfl, rfl⟩))) | (refine Zac rfl (fun hb => ?_) (fun hb => ?_) <;> (repeat (first | replace hb := Zam hb | replace hb := Zan hb)) <;> (try (exfalso; omega)))))
     all_goals (try (exfalso; first | contradiction | omega))
     exact ⟨i + 1, ⟨by omega, fun j h h2 => by
       by_cases e : j = i
       · subst e; exact he
       · exact hn j (by omega) h2⟩, by omega, Zae (by repeat (first | exact Zai | refine Zad rfl ?_)) (List.Sublist.refl _)⟩
 · (repeat' (first | refine Za8 ?_ | refine Za1 ?_ | refine Za6 ?_ | (apply Za9; (first | exact Za4 rfl | (apply Zah; exact Zau rfl rfl)); exact rfl) | refine Zaq ?_ | refine Zbk ?_ | (refine Zac rfl (fun hb => ?_) (fun hb => ?_) <;> (repeat (first | replace hb := Zam hb | replace hb := Zan hb)) <;> (try (exfalso; omega)))))
   all_goals (try (exfalso; omega))
   refine ⟨.inr rfl, ret1 rfl (.tmp rfl) (List.nil_sublist _) ⟨congrArg (exI .i64) ?_, rfl⟩⟩
   have : l.findIdx? (fun p => decide (p.2 < p.1)) = none := by
     rw [List.findIdx?_eq_none_iff]
     intro x hx
     obtain ⟨j, hj, rfl⟩ := List.getElem_of_mem hx
     simpa using hn j (by omega) hj
   unfold overF; rw [this]
set_option maxRecDepth 100000 in
theorem cfPair_any (l : List (Int × Int)) : FnC Tryz.prog 105 [isl ePair l, ex (.func (.func 106) #[] #[])] [] (fun q loc => q = exB (l.any (fun p => decide (p.2 < p.1))) ∧ loc = []) := by
 refine Zb7 Tryz.func105 rfl Tryz.ntmps105 rfl fun w0 F0 out => ?_
 (repeat' (first | refine Za8 ?_ | refine Za1 ?_ | refine Za6 ?_ | (apply Za9; (first | exact Za3 rfl | exact Za4 rfl | (apply Zah; exact Zcp rfl rfl)); exact rfl) | refine Zaq ?_ | (apply Zaj; exact rfl; (apply Zao; (refine Zaw Tryz.func112 rfl (ifPair_any _) rfl ?_; rintro _ _ ⟨rfl, rfl⟩)))))
 refine ⟨.inr rfl, ret1 rfl (.tmp rfl) (List.nil_sublist _) ⟨?_, rfl⟩⟩
 rw [← overF_neg]
set_option maxRecDepth 100000 in
theorem within_any (l : List (Int × Int)) : FnC Tryz.prog 92 [isl ePair l] [] (fun q loc => q = exB (!l.any (fun p => decide (p.2 < p.1))) ∧ loc = []) := by
 refine Zb7 Tryz.func92 rfl Tryz.ntmps92 rfl fun w0 F0 out => ?_
 (repeat' (first | refine Za8 ?_ | refine Za1 ?_ | refine Za6 ?_ | (apply Za9; (first | exact Za3 rfl | exact Za4 rfl | (apply g_un; exact Zbg rfl)); exact rfl) | refine Zaq ?_ | (apply Zaj; exact rfl; (apply Zao; (refine Zaw Tryz.func105 rfl (cfPair_any _) rfl ?_; rintro _ _ ⟨rfl, rfl⟩)))))
 exact ⟨.inr rfl, ret1 rfl (.tmp rfl) (List.nil_sublist _) ⟨rfl, rfl⟩⟩
end Go.Proofs.YthldagplhklbnaaGreatDoor
namespace Go.Proofs.YthldagplhklbnaaGreatDoor
open Go Go.RowKit Go.Kx Go.Fr
mutual
theorem sizeN_depth : ∀ (x : Ex) (p : Nat), (x.sizeN p).2 ≤ x.depth
 | .mk _ _ _ _ l, p => by
   simp only [Ex.sizeN, Ex.depth]
   split
   · exact Nat.zero_le _
   · have := sizesN_depth l (p + 1) 0
     show (Ex.sizesN l (p + 1) 0).2 + 1 ≤ _
     omega
theorem sizesN_depth : ∀ (l : List Ex) (p d : Nat), (Ex.sizesN l p d).2 ≤ max d (Ex.depths l)
 | [], p, d => by simp only [Ex.sizesN, Ex.depths]; omega
 | x :: xs, p, d => by
   simp only [Ex.sizesN, Ex.depths]
   have h1 := sizeN_depth x p
   have h2 := sizesN_depth xs (x.sizeN p).1 (max d (x.sizeN p).2)
   omega
end
set_option maxHeartbeats 1000000 in
set_option maxRecDepth 100000 in
theorem size_any : ∀ (k : Nat) (x : Ex) (b p : Nat), p + x.tot ≤ 2 ^ 60 → FnC Tryz.prog 93 [agg (exV k x), ex (.pointer (some ⟨b, 0, none⟩))] [row b 3 1 [exI .i64 (p : Int)]] (fun q loc => q = exI .i64 ((x.sizeN p).2 : Int) ∧ loc = [row b 3 1 [exI .i64 ((x.sizeN p).1 : Int)]]) := by
 intro k
 induction k with
 | zero => intro x b p _; exact Zbe (i := 0) rfl Says_ex0 fun h => h.elim
 | succ k ih =>
   intro x b p hp
   refine Zbe (i := 0) rfl (Zca (i := 4) (p := isl (eEx k) x.l) rfl Zbl) fun hlen => ?_
   show FnC Tryz.prog 93 [agg [exI .i64 x.kind, exT x.name, exI .i64 x.n, exI .i64 x.d, isl (eEx k) x.l], ex (.pointer (some ⟨b, 0, none⟩))] [row b 3 1 [exI .i64 (p : Int)]] (fun q loc => q = exI .i64 ((x.sizeN p).2 : Int) ∧ loc = [row b 3 1 [exI .i64 ((x.sizeN p).1 : Int)]])
   obtain ⟨hlen, -⟩ := hlen
   simp only [maxLen] at hlen
   have htl := Ex.tot_l x
   have hspec := Ex.sizesN_spec x.l (p + 1) 0
   rw [Ex.sizeN_l]
   refine Zb7 Tryz.func93 rfl Tryz.ntmps93 rfl fun w0 F0 out => ?_
   by_cases hbig : 256 < p + 1
   · rw [if_pos hbig]
     (repeat' (first | refine Za8 ?_ | refine Za1 ?_ | refine Za6 ?_ | (apply Za9; (first | exact Za3 rfl | exact Za4 rfl | (apply Za7; exact Zab (k := 1) rfl rfl rfl rfl) | (apply Zah; first | exact Zcc rfl rfl | exact Zbf rfl rfl) | (apply Zcq; exact Zcm rfl)); exact rfl) | refine Zaq ?_ | (apply Zaj; exact rfl; first | (apply Zc9; refine Zbz rfl ?_; intro _) | (apply Zav; refine Zal (k := 1) (l0 := []) rfl rfl rfl ?_)) | (refine Zac rfl (fun hb => ?_) (fun hb => ?_) <;> (repeat (first | replace hb := Zam hb | replace hb := Zan hb)) <;> (try (exfalso; omega)))))
     all_goals (try (exfalso; omega))
     exact ⟨.inr rfl, ret1 rfl (.tmp rfl) (List.sublist_cons_self _ _) ⟨rfl, rfl⟩⟩
   rw [if_neg hbig]
   (repeat' (first | refine Za8 ?_ | refine Za1 ?_ | refine Za6 ?_ | (apply Za9; (first | exact Za3 rfl | exact Za4 rfl | (apply Za7; first | exact Zab (k := 0) rfl rfl rfl rfl | exact Zab (k := 1) rfl rfl rfl rfl) | (apply Zat; exact Zaf rfl rfl rfl) | (apply Zah; first | exact Zcc rfl rfl | exact Zbf rfl rfl) | (apply Zax; exact Zb3 rfl rfl) | (apply Zcq; exact Zcm rfl)); exact rfl) | refine Zaa ?_ | refine Zag ?_ | (apply Zaj; exact rfl; first | (apply Zc9; refine Zbz rfl ?_; intro _) | (apply Zav; refine Zal (k := 1) (l0 := []) rfl rfl rfl ?_)) | (refine Zac rfl (fun hb => ?_) (fun hb => ?_) <;> (repeat (first | replace hb := Zam hb | replace hb := Zan hb)) <;> (try (exfalso; omega)))))
   all_goals (try (exfalso; omega))
   refine Zbv (fun s : Nat × Nat × Nat => ([(1, ex (.pointer (some ⟨b, 0, none⟩))), (4, exI .i64 (s.2.2 : Int)), (17, isl (eEx k) x.l), (18, exI .i64 (x.l.length : Int)), (19, exI .i64 (s.1 : Int))], [row b 3 1 [exI .i64 (s.2.1 : Int)]])) (fun s => s.1 ≤ x.l.length ∧ s.2.1 + Ex.tots (x.l.drop s.1) ≤ 2 ^ 60 ∧ s.2.2 ≤ 2 ^ 60 ∧ Ex.sizesN (x.l.drop s.1) s.2.1 s.2.2 = Ex.sizesN x.l (p + 1) 0) (fun s => x.l.length - s.1) (0, p + 1, 0) ?_ ⟨Nat.zero_le _, by show p + 1 + Ex.tots x.l ≤ _; omega, Nat.zero_le _, rfl⟩ fun s hs => ?_
   · exact Zbd 1 (by repeat (first | exact Zai | refine Zad rfl ?_)) rfl
   obtain ⟨i, q, d⟩ := s
   obtain ⟨hi, hq, hd, he⟩ := hs
   simp only at hi hq hd he ⊢
   by_cases hlt : i < x.l.length
   · rw [Ex.sizesN_drop hlt] at he
     rw [Ex.tots_drop hlt] at hq
     have hsp := Ex.sizeN_spec x.l[i] q
     have hcall := ih x.l[i] b q (by omega)
     have hd2 := sizeN_depth x.l[i] q
     have hdt := Ex.depth_le_tot x.l[i]
     (repeat' (first | refine Za8 ?_ | refine Za1 ?_ | refine Za6 ?_ | (apply Za9; (first | exact Za3 rfl | exact Za4 rfl | (apply Za7; first | exact Zb2 rfl rfl | exact Zb6 (k := 0) rfl rfl rfl) | (apply Zah; first | exact Zau rfl rfl | exact Zbf rfl rfl) | (apply Zak; exact Zar rfl rfl rfl) | (apply Zax; exact WT_max rfl rfl)); exact rfl) | refine Zaa ?_ | refine Zag ?_ | (apply Zaj; exact rfl; first | (apply Zao; (refine WO_call1 (k := 1) rfl Tryz.func93 rfl hcall rfl ?_; rintro _ _ ⟨rfl, rfl⟩)) | (apply Zbi; refine Zba ?_; intro _) | (apply Zav; refine Zal (k := 0) (l0 := []) rfl rfl rfl ?_)) | (refine Zac rfl (fun hb => ?_) (fun hb => ?_) <;> (repeat (first | replace hb := Zam hb | replace hb := Zan hb)) <;> (try (exfalso; omega)))))
     all_goals (try (exfalso; omega))
     refine ⟨(i + 1, (x.l[i].sizeN q).1, max d (x.l[i].sizeN q).2), ⟨by show i + 1 ≤ _; omega, by show (x.l[i].sizeN q).1 + Ex.tots (x.l.drop (i + 1)) ≤ _; omega, by show max d (x.l[i].sizeN q).2 ≤ _; omega, he⟩, by show x.l.length - (i + 1) < x.l.length - i; omega, ?_⟩
     have e1 : ((max d (x.l[i].sizeN q).2 : Nat) : Int) = if ((x.l[i].sizeN q).2 : Int) > (d : Int) then ((x.l[i].sizeN q).2 : Int) else (d : Int) := by split <;> omega
     simp only [e1]
     exact Zae (by repeat (first | exact Zai | refine Zad rfl ?_)) (List.cons_sublist_cons.2 (List.nil_sublist _))
   · have hk9 : i = x.l.length := by omega
     subst hk9
     rw [List.drop_length] at he
     simp only [Ex.sizesN] at he
     rw [← he]
     (repeat' (first | refine Za8 ?_ | refine Za1 ?_ | refine Za6 ?_ | (apply Za9; (first | exact Za3 rfl | exact Za4 rfl | (apply Zah; first | exact Zau rfl rfl | exact Zbf rfl rfl)); exact rfl) | refine Zaq ?_ | refine Zbk ?_ | (refine Zac rfl (fun hb => ?_) (fun hb => ?_) <;> (repeat (first | replace hb := Zam hb | replace hb := Zan hb)) <;> (try (exfalso; omega)))))
     all_goals (try (exfalso; omega))
     refine ⟨.inr rfl, ret1 rfl (.tmp rfl) (List.Sublist.refl _) ⟨rfl, rfl⟩⟩
theorem big_over (r : RulesD) : ([((r.crits.length : Int), (64 : Int)), ((r.bonus.length : Int), 64), ((r.malus.length : Int), 64), ((r.ties.length : Int), 16), ((r.rounds.length : Int), 8), ((r.prizes.length : Int), 64), ((r.points.length : Int), 64)].any fun p => decide (p.2 < p.1)) = r.big := by
 rw [Bool.eq_iff_iff]
 simp only [RulesD.big, List.any_cons, List.any_nil, Bool.or_false, Bool.or_eq_true, decide_eq_true_eq]
 omega
set_option maxHeartbeats 1000000 in
set_option maxRecDepth 100000 in
theorem small_any (k : Nat) (r : RulesD) (hf : r.few = true) : FnC Tryz.prog 46 [rul k r] [] (fun p loc => p = exB (!r.large) ∧ loc = []) := by
 obtain ⟨hf1, hf2, hf3, hf4, hf5, hf6, hf7, hf8, hf9⟩ := few_facts hf
 refine Zb7 Tryz.func46 rfl Tryz.ntmps46 rfl fun w0 F0 out => ?_
 have hw7 := within_any [((r.crits.length : Int), (64 : Int)), ((r.bonus.length : Int), 64), ((r.malus.length : Int), 64), ((r.ties.length : Int), 16), ((r.rounds.length : Int), 8), ((r.prizes.length : Int), 64), ((r.points.length : Int), 64)]
 rw [big_over r] at hw7
 cases hbg : r.big
 case true =>
   have e : r.large = true := by unfold RulesD.large; rw [hbg]; rfl
   rw [e]
   rw [hbg] at hw7
   (repeat' (first | refine Za8 ?_ | refine Za1 ?_ | refine Za6 ?_ | (apply Za9; (first | exact Za4 rfl | (apply Za7; exact Zab (k := 0) rfl rfl rfl rfl) | (apply Zat; exact Zaf rfl rfl rfl) | (apply Zax; exact Zb3 rfl rfl) | (apply g_un; exact Zbg rfl) | (apply g_build; exact WT_build2 rfl rfl (by repeat (first | exact PartsO.nil | (apply PartsO.cons; exact rfl; exact inferInstance; exact rfl; exact rfl))))); exact rfl) | refine Zaq ?_ | refine Zb4 rfl ?_ | (apply Zaj; exact rfl; first | (apply Zao; (refine WO_callb (k := 0) rfl Tryz.func92 rfl hw7 (.part (E := ePair) (off := 0) rfl inferInstance (fun _ => rfl) (by decide) rfl rfl (by decide) (by decide) (by decide) .nil) (by rintro _ _ ⟨rfl, rfl⟩; exact ⟨rfl, _, rfl⟩) ?_; rintro v ⟨hv, _⟩; obtain rfl := ex_inj hv)) | (apply Zc9; refine Zbz rfl ?_; intro _) | (apply Zcb; (refine WO_bslice rfl (by repeat (first | exact PartsO.nil | (apply PartsO.cons; exact rfl; exact inferInstance; exact rfl; exact rfl))) ?_); intro _))))
   all_goals (try (exfalso; omega))
   exact ⟨.inr rfl, ret1 rfl (.tmp rfl) (List.nil_sublist _) ⟨rfl, rfl⟩⟩
 have hl : r.large = (r.ties.any (fun t => decide (32 < t.keys.length)) || r.rounds.any (fun y => decide (256 < y.score.tot) || decide (16 < y.score.depth))) := by unfold RulesD.large; rw [hbg]; rfl
 rw [hl]
 rw [hbg] at hw7
 (repeat' (first | refine Za8 ?_ | refine Za1 ?_ | refine Za6 ?_ | (apply Za9; (first | exact Za3 rfl | exact Za4 rfl | (apply Za7; first | exact Zab (k := 0) rfl rfl rfl rfl | exact Zab (k := 1) rfl rfl rfl rfl) | (apply Zat; exact Zaf rfl rfl rfl) | (apply Zax; exact Zb3 rfl rfl) | (apply g_un; exact Zbg rfl) | (apply g_build; exact WT_build2 rfl rfl (by repeat (first | exact PartsO.nil | (apply PartsO.cons; exact rfl; exact inferInstance; exact rfl; exact rfl))))); exact rfl) | refine Zaa ?_ | refine Zag ?_ | refine Zb8 rfl ?_ | (apply Zaj; exact rfl; first | (apply Zao; (refine WO_callb (k := 0) rfl Tryz.func92 rfl hw7 (.part (E := ePair) (off := 0) rfl inferInstance (fun _ => rfl) (by decide) rfl rfl (by decide) (by decide) (by decide) .nil) (by rintro _ _ ⟨rfl, rfl⟩; exact ⟨rfl, _, rfl⟩) ?_; rintro v ⟨hv, _⟩; obtain rfl := ex_inj hv)) | (apply Zc9; refine Zbz rfl ?_; intro _) | (apply Zcb; (refine WO_bslice rfl (by repeat (first | exact PartsO.nil | (apply PartsO.cons; exact rfl; exact inferInstance; exact rfl; exact rfl))) ?_); intro _))))
 all_goals (try (exfalso; omega))
 rename_i b1 b2 _
 refine Zbv (fun i : Nat => ([(1, ex (.pointer (some ⟨b1, 0, none⟩))), (41, isl eTie r.ties), (42, exI .i64 (r.ties.length : Int)), (43, exI .i64 (i : Int))], [row b1 28 9 (rulesV k r)])) (fun i => i ≤ r.ties.length ∧ (r.ties.take i).any (fun t => decide (32 < t.keys.length)) = false) (fun i => r.ties.length - i) 0 ?_ ⟨Nat.zero_le _, rfl⟩ fun i hi => ?_
 · exact Zbd 1 (by repeat (first | exact Zai | refine Zad rfl ?_)) rfl
 obtain ⟨hi, hall⟩ := hi
 by_cases hlt : i < r.ties.length
 · have hw1 := within_any [((r.ties[i].keys.length : Int), (32 : Int))]
   by_cases he : r.ties[i].keys.length ≤ 32
   · have e1 : ([((r.ties[i].keys.length : Int), (32 : Int))].any fun p => decide (p.2 < p.1)) = false := by simp; omega
     rw [e1] at hw1
     (repeat' (first | refine Za8 ?_ | refine Za1 ?_ | refine Za6 ?_ | (apply Za9; (first | exact Za3 rfl | (apply Za7; first | exact Zab (k := 0) rfl rfl rfl rfl | exact Zb2 rfl rfl) | (apply Zat; exact Zaf rfl rfl rfl) | (apply Zah; first | exact Zau rfl rfl | exact Zbf rfl rfl) | (apply Zak; exact Zar rfl rfl rfl) | (apply Zax; exact Zb3 rfl rfl) | (apply g_un; exact Zbg rfl) | (apply g_build; exact WT_build2 rfl rfl (by repeat (first | exact PartsO.nil | (apply PartsO.cons; exact rfl; exact inferInstance; exact rfl; exact rfl))))); exact rfl) | refine Zaa ?_ | refine Zag ?_ | refine Zb8 rfl ?_ | (apply Zaj; exact rfl; first | (apply Zao; (refine WO_callb (k := 0) rfl Tryz.func92 rfl hw1 (.part (E := ePair) (off := 0) rfl inferInstance (fun _ => rfl) (by decide) rfl rfl (by decide) (by decide) (by decide) .nil) (by rintro _ _ ⟨rfl, rfl⟩; exact ⟨rfl, _, rfl⟩) ?_; rintro v ⟨hv, _⟩; obtain rfl := ex_inj hv)) | (apply Zbi; refine Zba ?_; intro _) | (apply Zav; refine Zal (k := 0) (l0 := []) rfl rfl rfl ?_) | (apply Zcb; (refine Zce rfl rfl ?_); intro _)) | (refine Zac rfl (fun hb => ?_) (fun hb => ?_) <;> (repeat (first | replace hb := Zam hb | replace hb := Zan hb)) <;> (try (exfalso; omega)))))
     all_goals (try (exfalso; omega))
     exact ⟨i + 1, ⟨by omega, by rw [any_take_succ hlt, hall, decide_eq_false (by omega)]; rfl⟩, by omega, Zbd 2 (by repeat (first | exact Zai | refine Zad rfl ?_)) rfl⟩
   · have e1 : ([((r.ties[i].keys.length : Int), (32 : Int))].any fun p => decide (p.2 < p.1)) = true := by simp; omega
     rw [e1] at hw1
     (repeat' (first | refine Za8 ?_ | refine Za1 ?_ | refine Za6 ?_ | (apply Za9; (first | exact Za4 rfl | (apply Za7; first | exact Zab (k := 0) rfl rfl rfl rfl | exact Zb2 rfl rfl) | (apply Zat; exact Zaf rfl rfl rfl) | (apply Zah; exact Zau rfl rfl) | (apply Zak; exact Zar rfl rfl rfl) | (apply Zax; exact Zb3 rfl rfl) | (apply g_un; exact Zbg rfl) | (apply g_build; exact WT_build2 rfl rfl (by repeat (first | exact PartsO.nil | (apply PartsO.cons; exact rfl; exact inferInstance; exact rfl; exact rfl))))); exact rfl) | refine Zaa ?_ | refine Zag ?_ | refine Zaq ?_ | refine Zb4 rfl ?_ | (apply Zaj; exact rfl; first | (apply Zao; (refine WO_callb (k := 0) rfl Tryz.func92 rfl hw1 (.part (E := ePair) (off := 0) rfl inferInstance (fun _ => rfl) (by decide) rfl rfl (by decide) (by decide) (by decide) .nil) (by rintro _ _ ⟨rfl, rfl⟩; exact ⟨rfl, _, rfl⟩) ?_; rintro v ⟨hv, _⟩; obtain rfl := ex_inj hv)) | (apply Zbi; refine Zba ?_; intro _) | (apply Zav; refine Zal (k := 0) (l0 := []) rfl rfl rfl ?_) | (apply Zcb; (refine Zce rfl rfl ?_); intro _)) | (refine Zac rfl (fun hb => ?_) (fun hb => ?_) <;> (repeat (first | replace hb := Zam hb | replace hb := Zan hb)) <;> (try (exfalso; omega)))))
     all_goals (try (exfalso; omega))
     refine ⟨.inr rfl, ret1 rfl (.tmp rfl) (List.nil_sublist _) ⟨congrArg exB ?_, rfl⟩⟩
     have : r.ties.any (fun t => decide (32 < t.keys.length)) = true := by
       rw [List.any_eq_true]; exact ⟨_, List.getElem_mem hlt, by simpa using he⟩
     rw [this]; rfl
 · have hk9 : i = r.ties.length := by omega
   subst hk9
   rw [List.take_length] at hall
   rw [hall, Bool.false_or]
   (repeat' (first | refine Za8 ?_ | refine Za1 ?_ | refine Za6 ?_ | (apply Za9; (first | exact Za3 rfl | (apply Za7; exact Zab (k := 0) rfl rfl rfl rfl) | (apply Zat; exact Zaf rfl rfl rfl) | (apply Zah; exact Zau rfl rfl) | (apply Zax; exact Zb3 rfl rfl)); exact rfl) | refine Zaa ?_ | refine Zbk ?_ | (refine Zac rfl (fun hb => ?_) (fun hb => ?_) <;> (repeat (first | replace hb := Zam hb | replace hb := Zan hb)) <;> (try (exfalso; omega)))))
   all_goals (try (exfalso; omega))
   refine Zbv (fun i : Nat => ([(1, ex (.pointer (some ⟨b1, 0, none⟩))), (56, isl (eRound k) r.rounds), (57, exI .i64 (r.rounds.length : Int)), (58, exI .i64 (i : Int))], [row b1 28 9 (rulesV k r)])) (fun i => i ≤ r.rounds.length ∧ (r.rounds.take i).any (fun y => decide (256 < y.score.tot) || decide (16 < y.score.depth)) = false) (fun i => r.rounds.length - i) 0 ?_ ⟨Nat.zero_le _, rfl⟩ fun i hi => ?_
   · exact Zae (by repeat (first | exact Zai | refine Zad rfl ?_)) (List.Sublist.refl _)
   obtain ⟨hi, hall2⟩ := hi
   by_cases hlt : i < r.rounds.length
   · have hsi := hf9 _ (List.getElem_mem hlt)
     have hspec := Ex.sizeN_spec r.rounds[i].score 0
     have hszA : ∀ b, FnC Tryz.prog 93 [agg (exV k r.rounds[i].score), ex (.pointer (some ⟨b, 0, none⟩))] [row b 3 1 [ex (.int .i64 0)]] (fun q loc => q = exI .i64 ((r.rounds[i].score.sizeN 0).2 : Int) ∧ loc = [row b 3 1 [exI .i64 ((r.rounds[i].score.sizeN 0).1 : Int)]]) := fun b => size_any k r.rounds[i].score b 0 (by omega)
     have hw2 := within_any [(((r.rounds[i].score.sizeN 0).1 : Int), (256 : Int)), (((r.rounds[i].score.sizeN 0).2 : Int), 16)]
     have e2 : ([(((r.rounds[i].score.sizeN 0).1 : Int), (256 : Int)), (((r.rounds[i].score.sizeN 0).2 : Int), 16)].any fun p => decide (p.2 < p.1)) = (decide (256 < r.rounds[i].score.tot) || decide (16 < r.rounds[i].score.depth)) := by
       rw [Bool.eq_iff_iff]
       simp only [List.any_cons, List.any_nil, Bool.or_false, Bool.or_eq_true, decide_eq_true_eq]
       by_cases hc : r.rounds[i].score.tot ≤ 256
       · have := hspec.2.2.1 (by omega)
         rw [this]
         simp only
         omega
       · have := hspec.2.2.2 (by omega)
         omega
     rw [e2] at hw2
     generalize hov : (decide (256 < r.rounds[i].score.tot) || decide (16 < r.rounds[i].score.depth)) = ov at hw2
     cases ov
     · (repeat' (first | refine Za8 ?_ | refine Za1 ?_ | refine Za6 ?_ | (apply Za9; (first | exact Za3 rfl | exact Za4 rfl | (apply Za7; first | exact Zab (k := 0) rfl rfl rfl rfl | exact Zb2 rfl rfl | exact Zb6 (k := 1) rfl rfl rfl) | (apply Zat; exact Zaf rfl rfl rfl) | (apply Zah; first | exact Zau rfl rfl | exact Zbf rfl rfl) | (apply Zak; exact Zar rfl rfl rfl) | (apply g_un; exact Zbg rfl) | (apply g_build; exact WT_build2 rfl rfl (by repeat (first | exact PartsO.nil | (apply PartsO.cons; exact rfl; exact inferInstance; exact rfl; exact rfl))))); exact rfl) | refine Zaa ?_ | refine Zag ?_ | refine Zb8 rfl ?_ | (apply Zaj; exact rfl; first | (apply Zao; first | (refine WO_call1 (k := 0) rfl Tryz.func93 rfl (hszA _) rfl ?_; rintro _ _ ⟨rfl, rfl⟩) | (refine WO_callb (k := 0) rfl Tryz.func92 rfl hw2 (.part (E := ePair) (off := 0) rfl inferInstance (fun _ => rfl) (by decide) rfl rfl (by decide) (by decide) (by decide) .nil) (by rintro _ _ ⟨rfl, rfl⟩; exact ⟨rfl, _, rfl⟩) ?_; rintro v ⟨hv, _⟩; obtain rfl := ex_inj hv)) | (apply Zbi; refine Zba ?_; intro _) | (apply Zav; refine Zal (k := 0) (l0 := []) rfl rfl rfl ?_) | (apply Zcb; (refine WO_bslice rfl (by repeat (first | exact PartsO.nil | (apply PartsO.cons; exact rfl; exact inferInstance; exact rfl; exact rfl))) ?_); intro _)) | (refine Zac rfl (fun hb => ?_) (fun hb => ?_) <;> (repeat (first | replace hb := Zam hb | replace hb := Zan hb)) <;> (try (exfalso; omega)))))
       all_goals (try (exfalso; omega))
       exact ⟨i + 1, ⟨by omega, by rw [any_take_succ hlt, hall2, hov]; rfl⟩, by omega, Zbd 3 (by repeat (first | exact Zai | refine Zad rfl ?_)) rfl⟩
     · (repeat' (first | refine Za8 ?_ | refine Za1 ?_ | refine Za6 ?_ | (apply Za9; (first | exact Za3 rfl | exact Za4 rfl | (apply Za7; first | exact Zab (k := 0) rfl rfl rfl rfl | exact Zb2 rfl rfl | exact Zb6 (k := 1) rfl rfl rfl) | (apply Zat; exact Zaf rfl rfl rfl) | (apply Zah; exact Zau rfl rfl) | (apply Zak; exact Zar rfl rfl rfl) | (apply g_un; exact Zbg rfl) | (apply g_build; exact WT_build2 rfl rfl (by repeat (first | exact PartsO.nil | (apply PartsO.cons; exact rfl; exact inferInstance; exact rfl; exact rfl))))); exact rfl) | refine Zaa ?_ | refine Zag ?_ | refine Zaq ?_ | refine Zb4 rfl ?_ | (apply Zaj; exact rfl; first | (apply Zao; first | (refine WO_call1 (k := 0) rfl Tryz.func93 rfl (hszA _) rfl ?_; rintro _ _ ⟨rfl, rfl⟩) | (refine WO_callb (k := 0) rfl Tryz.func92 rfl hw2 (.part (E := ePair) (off := 0) rfl inferInstance (fun _ => rfl) (by decide) rfl rfl (by decide) (by decide) (by decide) .nil) (by rintro _ _ ⟨rfl, rfl⟩; exact ⟨rfl, _, rfl⟩) ?_; rintro v ⟨hv, _⟩; obtain rfl := ex_inj hv)) | (apply Zbi; refine Zba ?_; intro _) | (apply Zav; refine Zal (k := 0) (l0 := []) rfl rfl rfl ?_) | (apply Zcb; (refine WO_bslice rfl (by repeat (first | exact PartsO.nil | (apply PartsO.cons; exact rfl; exact inferInstance; exact rfl; exact rfl))) ?_); intro _)) | (refine Zac rfl (fun hb => ?_) (fun hb => ?_) <;> (repeat (first | replace hb := Zam hb | replace hb := Zan hb)) <;> (try (exfalso; omega)))))
       all_goals (try (exfalso; omega))
       refine ⟨.inr rfl, ret1 rfl (.tmp rfl) (List.nil_sublist _) ⟨congrArg exB ?_, rfl⟩⟩
       have : r.rounds.any (fun y => decide (256 < y.score.tot) || decide (16 < y.score.depth)) = true := by
         rw [List.any_eq_true]; exact ⟨_, List.getElem_mem hlt, hov⟩
       rw [this]; rfl
   · have hk9 : i = r.rounds.length := by omega
     subst hk9
     rw [List.take_length] at hall2
     rw [hall2]
     (repeat' (first | refine Za8 ?_ | refine Za1 ?_ | refine Za6 ?_ | (apply Za9; (first | exact Za4 rfl | (apply Zah; exact Zau rfl rfl)); exact rfl) | refine Zaq ?_ | refine Zbk ?_ | (refine Zac rfl (fun hb => ?_) (fun hb => ?_) <;> (repeat (first | replace hb := Zam hb | replace hb := Zan hb)) <;> (try (exfalso; omega)))))
     all_goals (try (exfalso; omega))
     exact ⟨.inr rfl, ret1 rfl (.tmp rfl) (List.nil_sublist _) ⟨rfl, rfl⟩⟩
end Go.Proofs.YthldagplhklbnaaGreatDoor
namespace Go.Proofs.YthldagplhklbnaaGreatDoor
open Go Go.RowKit Go.Kx Go.Fr
def growR : Go.Shelf.Ren := ⟨fun | 4 => 94 | n => n, fun | 0 => 0 | 3 => 3 | 4 => 4 | 9 => 9 | 20 => 20 | 22 => 23 | 25 => 86 | n => n, fun n => n⟩
theorem growL : Go.Proofs.Lays8.n4 Tryz.prog growR := {
 mixed := by kernel_rfl
 f4 := ⟨Tryz.f94.name, by kernel_rfl, Tryz.func94.trans (congrArg some (by kernel_rfl))⟩
 t0 := Tryz.underlying0
 a0 := Tryz.isAgg0
 z0 := Tryz.sizeOf0
 v0 := Tryz.zeroValue0
 t3 := Tryz.underlying3
 a3 := Tryz.isAgg3
 z3 := Tryz.sizeOf3
 v3 := Tryz.zeroValue3
 t4 := Tryz.underlying4
 a4 := Tryz.isAgg4
 z4 := Tryz.sizeOf4
 v4 := Tryz.zeroValue4
 t9 := Tryz.underlying9
 a9 := Tryz.isAgg9
 z9 := Tryz.sizeOf9
 v9 := Tryz.zeroValue9
 t20 := Tryz.underlying20
 a20 := Tryz.isAgg20
 z20 := Tryz.sizeOf20
 v20 := Tryz.zeroValue20
 t22 := Tryz.underlying23
 a22 := Tryz.isAgg23
 z22 := Tryz.sizeOf23
 v22 := Tryz.zeroValue23 }
theorem growItem_own (n : Nat) (hn : n ≤ 1000) : FnC Tryz.prog 94 [ex (.slice none 0 0), exI .i64 (n : Int)] [] (fun p loc => ∃ v, p = ex v ∧ loc = [vec v 86 3 0 []]) := by
 intro F w vals out hG hA
 obtain ⟨u, v, rfl, rfl, rfl⟩ := hA.two
 have hG' : Go.Fr.Good F out w := hG
 rcases Nat.eq_zero_or_pos n with rfl | h0
 · refine (Any8.slices_Grow_room growL none 0 0 0 w (by omega) (by omega) (by omega) (by omega)).mono ?_
   rintro e w' ⟨rfl, rfl⟩
   have hf : ∀ b, b ∉ (vec (.slice none 0 0) 86 3 0 []).foot := fun b hb => by have := vec_foot.1 hb; simp [Value.ownBlock] at this
   refine ⟨_, F, _, _, rfl, ⟨_, rfl, rfl⟩, rfl, ⟨fun e he => ?_, fun e he b hb => ?_, List.pairwise_cons.2 ⟨fun e he b hb => absurd hb (hf b), hG'.disj⟩⟩, Ch.refl _ _, fun b hb _ => hb, fun e he b hb => ?_⟩
   · rcases List.mem_cons.1 he with rfl | he
     · exact ⟨[], ⟨by simp, .inl ⟨rfl, rfl⟩⟩, rfl, fun i p hp => by cases hp⟩
     · exact hG'.rel e he
   · rcases List.mem_cons.1 he with rfl | he
     · exact absurd hb (hf b)
     · exact hG'.lt e he b hb
   · simp only [List.mem_singleton] at he
     subst he
     exact absurd hb (hf b)
 · obtain ⟨i0, hi, hs, hb, hz⟩ := (inferInstance : TI Tryz.prog 86 _ _ _).out
   refine (Any8.slices_Grow_grow growL i0 _ hi hz (by rw [hs]; decide) none 0 0 n [] w (by omega) (by omega) (by rw [hb]; omega) (by omega) (by simp) (fun _ => rfl) (fun a h => by cases h)).mono ?_
   rintro e w' ⟨rfl, rfl⟩
   have hge := grownCap_ge w (0 + n) 0 86
   have hcm : grownCap w (0 + n) 0 86 ≤ maxLen := grownCap_le_maxLen w (0 + n) 0 86 (by simp only [maxLen]; omega)
   generalize hcur : ([] : List Value).toArray ++ _ ++ _ = cur
   have hsz : cur.size = grownCap w (0 + n) 0 86 * 3 := by
     rw [← hcur]
     have e25 : growR.t 25 = 86 := rfl
     simp only [Array.size_append, size_zeroCells, e25, Nat.zero_add] at hge ⊢
     simp [Value.cells]; omega
   have hold : ∀ k, k < w.heap.size → (w.drew.alloc (.cells cur (growR.t 25))).heap[k]? = w.heap[k]? := fun k hk => heap_alloc_old w.drew _ hk
   have hfoot : ∀ b, b ∈ (vec (.slice (some ⟨w.heap.size, 0, none⟩) 0 (grownCap w (0 + n) 0 86)) 86 3 0 []).foot ↔ b = w.heap.size := fun b => by rw [vec_foot]; simp [Value.ownBlock, eq_comm]
   refine ⟨_, fun k => F k ∧ k < w.heap.size, _, _, rfl, ⟨_, rfl, rfl⟩, rfl, ⟨fun e he => ?_, fun e he b hb => ?_, List.pairwise_cons.2 ⟨fun e he b hb hb2 => ?_, hG'.disj⟩⟩, ⟨rfl, rfl, rfl, by simp, fun k hk _ => hold k hk⟩, fun b hb hl => ⟨hb, hl⟩, fun e he b hb => ?_⟩
   · rcases List.mem_cons.1 he with rfl | he
     · refine ⟨[], ⟨by simp, .inr ⟨w.heap.size, _, cur, rfl, Nat.zero_le _, heap_alloc_new w.drew _, Nat.zero_le _, hcm, hsz, by simp⟩⟩, rfl, fun i p hp => by cases hp⟩
     · exact e.mono (hG'.rel e he) (fun b hF hl => ⟨⟨hF, hl⟩, hold b hl⟩) fun b hb' => hold b (hG'.lt e he b hb').1
   · rcases List.mem_cons.1 he with rfl | he
     · obtain rfl := (hfoot b).1 hb
       exact ⟨by simp, fun h => Nat.lt_irrefl _ h.2⟩
     · have := hG'.lt e he b hb
       exact ⟨by simp; omega, fun h => this.2 h.1⟩
   · obtain rfl := (hfoot b).1 hb
     exact Nat.lt_irrefl _ (hG'.lt e he _ hb2).1
   · simp only [List.mem_singleton] at he
     subst he
     obtain rfl := (hfoot b).1 hb
     exact .inl (Nat.le_refl _)
theorem flat_take_succ {α : Type} {ls : List (List α)} {i : Nat} (h : i < ls.length) : (ls.take (i + 1)).flatten = (ls.take i).flatten ++ ls[i] := by
 rw [List.take_succ_eq_append_getElem h, List.flatten_append]; simp
theorem flat_len_mono {α : Type} (ls : List (List α)) (i : Nat) : (ls.take i).flatten.length ≤ ls.flatten.length := by
 have h : (ls.take i).flatten ++ (ls.drop i).flatten = ls.flatten := by rw [← List.flatten_append, List.take_append_drop]
 rw [← h, List.length_append]; omega
set_option maxHeartbeats 1000000 in
set_option maxRecDepth 100000 in
theorem concatItem_any (ls : List (List ItemD)) (hn : ls.flatten.length ≤ 1000) (hls : ls.length ≤ 1000) : FnC Tryz.prog 50 [isl (eSl eItem) ls] [] (fun p loc => p = isl eItem ls.flatten ∧ loc = []) := by
 refine Zb7 Tryz.func50 rfl Tryz.ntmps50 rfl fun w0 F0 out => ?_
 (repeat' (first | refine Za8 ?_ | refine Za1 ?_ | refine Za6 ?_ | (apply Za9; (first | exact Za3 rfl | exact Za4 rfl | (apply Zax; exact Zb3 rfl rfl)); exact rfl) | refine Zaa ?_))
 refine Zbv (fun i : Nat => ([(0, isl (eSl eItem) ls), (9, isl (eSl eItem) ls), (10, exI .i64 (ls.length : Int)), (11, exI .i64 (i : Int)), (3, exI .i64 ((ls.take i).flatten.length : Int))], [])) (fun i => i ≤ ls.length) (fun i => ls.length - i) 0 ?_ (Nat.zero_le _) fun i hi => ?_
 · exact Zae (by repeat (first | exact Zai | refine Zad rfl ?_)) (List.Sublist.refl _)
 by_cases hlt : i < ls.length
 · have e1 := congrArg List.length (flat_take_succ hlt)
   rw [List.length_append] at e1
   have h2 := flat_len_mono ls (i + 1)
   (repeat' (first | refine Za8 ?_ | refine Za1 ?_ | refine Za6 ?_ | (apply Za9; (first | exact Za3 rfl | exact Za4 rfl | (apply Za7; exact Zb1 rfl rfl) | (apply Zah; first | exact Zau rfl rfl | exact Zbf rfl rfl) | (apply Zak; exact Zar rfl rfl rfl) | (apply Zax; exact Zb3 rfl rfl)); exact rfl) | refine Zaa ?_ | refine Zag ?_ | refine Zb8 rfl ?_ | (refine Zac rfl (fun hb => ?_) (fun hb => ?_) <;> (repeat (first | replace hb := Zam hb | replace hb := Zan hb)) <;> (try (exfalso; omega)))))
   all_goals (try (exfalso; omega))
   refine ⟨i + 1, by omega, by omega, ?_⟩
   rw [e1]
   exact Zae (by repeat (first | exact Zai | refine Zad rfl ?_)) (List.Sublist.refl _)
 · have hk9 : i = ls.length := by omega
   subst hk9
   rw [List.take_length]
   (repeat' (first | refine Za8 ?_ | refine Za1 ?_ | refine Za6 ?_ | (apply Za9; (first | exact Za3 rfl | exact Za4 rfl | (apply Zah; exact Zau rfl rfl) | (apply Zax; exact Zb3 rfl rfl)); exact rfl) | refine Zaa ?_ | refine Zbk ?_ | (apply Zaj; exact rfl; (apply Zao; (refine Zaw Tryz.func94 rfl (growItem_own _ (by omega)) rfl ?_; rintro _ _ ⟨v0, rfl, rfl⟩))) | (refine Zac rfl (fun hb => ?_) (fun hb => ?_) <;> (repeat (first | replace hb := Zam hb | replace hb := Zan hb)) <;> (try (exfalso; omega)))))
   all_goals (try (exfalso; omega))
   refine Zbv (fun s : Nat × Value => ([(0, isl (eSl eItem) ls), (25, isl (eSl eItem) ls), (26, exI .i64 (ls.length : Int)), (27, exI .i64 (s.1 : Int)), (6, ex s.2)], [vec s.2 86 3 (ls.take s.1).flatten.length ((ls.take s.1).flatten.flatMap itemV)])) (fun s => s.1 ≤ ls.length) (fun s => ls.length - s.1) (0, v0) ?_ (Nat.zero_le _) fun s hs => ?_
   · exact Zae (by repeat (first | exact Zai | refine Zad rfl ?_)) (List.Sublist.refl _)
   obtain ⟨i, v⟩ := s
   simp only at hs ⊢
   by_cases hlt : i < ls.length
   · have e1 := congrArg List.length (flat_take_succ hlt)
     rw [List.length_append] at e1
     have h2 := flat_len_mono ls (i + 1)
     (repeat' (first | refine Za8 ?_ | refine Za1 ?_ | refine Za6 ?_ | (apply Za9; (first | exact Za3 rfl | exact Za4 rfl | (apply Za7; exact Zb1 rfl rfl) | (apply Zah; first | exact Zau rfl rfl | exact Zbf rfl rfl) | (apply Zak; exact Zar rfl rfl rfl)); exact rfl) | refine Zaa ?_ | refine Zag ?_ | (apply Zaj; exact rfl; (apply Zcj; ((refine Zci (k := 0) (l0 := []) rfl rfl (by exact Src_isl rfl) rfl ?_)); intro _)) | (refine Zac rfl (fun hb => ?_) (fun hb => ?_) <;> (repeat (first | replace hb := Zam hb | replace hb := Zan hb)) <;> (try (exfalso; omega)))))
     all_goals (try (exfalso; omega))
     rename_i v2
     refine ⟨(i + 1, v2), by show i + 1 ≤ _; omega, by show ls.length - (i + 1) < ls.length - i; omega, ?_⟩
     simp only [flat_take_succ hlt, List.length_append, List.flatMap_append]
     exact Zae (by repeat (first | exact Zai | refine Zad rfl ?_)) (List.Sublist.refl _)
   · have hk9 : i = ls.length := by omega
     subst hk9
     rw [List.take_length]
     (repeat' (first | refine Za8 ?_ | refine Za1 ?_ | refine Za6 ?_ | (apply Za9; (first | exact Za3 rfl | exact Za4 rfl | (apply Zah; exact Zau rfl rfl)); exact rfl) | refine Zaq ?_ | refine Zbk ?_ | (refine Zac rfl (fun hb => ?_) (fun hb => ?_) <;> (repeat (first | replace hb := Zam hb | replace hb := Zan hb)) <;> (try (exfalso; omega)))))
     all_goals (try (exfalso; omega))
     apply retP_leads
     · exact Leads_fvec (k := 0) (t := 2) (E := eItem) ls.flatten rfl rfl rfl rfl (hby := by show _ * 32 ≤ _; omega)
     · exact ⟨.inr rfl, ret1 rfl (.tmp rfl) (List.nil_sublist _) ⟨rfl, rfl⟩⟩
end Go.Proofs.YthldagplhklbnaaGreatDoor
namespace Go.Proofs.YthldagplhklbnaaGreatDoor
open Go Go.RowKit Go.Kx Go.Fr
theorem im_zeroU (k : Nat) : Im (agg [ex (.string .empty), ex (.slice none 0 0), ex (.slice none 0 0), ex (.slice none 0 0), ex (.slice none 0 0), ex (.slice none 0 0), ex (.slice none 0 0), ex (.slice none 0 0), ex (.int .i64 0)]) (rul k RulesD.zero) := Ims.agg (.cons (.refl _) (.cons .nil (.cons .nil (.cons .nil (.cons .nil (.cons .nil (.cons .nil (.cons .nil (.cons (.refl _) .nil)))))))))
theorem at_cat {C : Cx} {ops : Array Oper} {Q : Post} {d : Option Nat} {xs : Array Operand} {ts : Array TypeId} {ty : TypeId} {pos : String} {af : Array Edge} {g : Option (Nat × Bool)} {rest : List Oper} {env : Env} {loc : List Ent} (h : WPL C ops Q (⟨d, .call ⟨.value (.func 50), xs, ts⟩, ty, pos, af, g⟩ :: rest) env loc) : WPL C ops Q (⟨d, .call ⟨.value (.func 50), xs, ts⟩, ty, pos, af, g⟩ :: rest) env loc := h
set_option maxHeartbeats 4000000 in
set_option maxRecDepth 100000 in
theorem nresolve_any (k : Nat) (r : RulesD) (hf : r.few = true) : FnC Tryz.prog 23 [rul k r] [Tab] (fun p loc => p = tup [rul k (r.resolve freeF).1, exI .i64 (r.resolve freeF).2] ∧ loc = []) := by
 obtain ⟨hf1, hf2, hf3, hf4, hf5, hf6, hf7, hf8, hf9⟩ := few_facts hf
 have hsma := small_any k r hf
 have hL0 : ∀ b, FnC Tryz.prog 47 [ex (.map (some b)), isl eCrit r.crits, ex (.func (.func 48) #[] #[])] [omap b ([] : List (List UInt8 × SP)), Tab] (fun p loc => p = tup [exB (r.n0.all freeF), exB (onceF r.n0)] ∧ loc = [omap b (imapN r.n0 r.n0.length)]) := fun b => by
   have h := listCrit_any r.crits b (by omega)
   rw [show r.n0.length = r.crits.length from List.length_map ..]
   exact h
 have hL1 : ∀ b, FnC Tryz.prog 49 [ex (.map (some b)), isl eItem (r.bonus ++ r.malus), ex (.func (.func 51) #[] #[])] [omap b ([] : List (List UInt8 × SP)), Tab] (fun p loc => p = tup [exB (r.n1.all freeF), exB (onceF r.n1)] ∧ loc = [omap b (imapN r.n1 r.n1.length)]) := fun b => by
   have h := listItem_any (r.bonus ++ r.malus) b (by rw [List.length_append]; omega)
   rw [List.map_append] at h
   rw [show r.n1.length = (r.bonus ++ r.malus).length by simp [RulesD.n1]]
   exact h
 have hL2 : ∀ b, FnC Tryz.prog 52 [ex (.map (some b)), isl eTie r.ties, ex (.func (.func 53) #[] #[])] [omap b ([] : List (List UInt8 × SP)), Tab] (fun p loc => p = tup [exB (r.n2.all freeF), exB (onceF r.n2)] ∧ loc = [omap b (imapN r.n2 r.n2.length)]) := fun b => by
   have h := listTie_any r.ties b (by omega)
   rw [show r.n2.length = r.ties.length from List.length_map ..]
   exact h
 have hL3 : ∀ b, FnC Tryz.prog 54 [ex (.map (some b)), isl (eRound k) r.rounds, ex (.func (.func 55) #[] #[])] [omap b ([] : List (List UInt8 × SP)), Tab] (fun p loc => p = tup [exB (r.n3.all freeF), exB (onceF r.n3)] ∧ loc = [omap b (imapN r.n3 r.n3.length)]) := fun b => by
   have h := listRound_any k r.rounds b (by omega)
   rw [show r.n3.length = r.rounds.length from List.length_map ..]
   exact h
 have hcat : FnC Tryz.prog 50 [isl (eSl eItem) [r.bonus, r.malus]] [] (fun p loc => p = isl eItem (r.bonus ++ r.malus) ∧ loc = []) := by
   have h := concatItem_any [r.bonus, r.malus] (by simp; omega) (by simp)
   have e : [r.bonus, r.malus].flatten = r.bonus ++ r.malus := by simp
   rw [e] at h; exact h
 refine Zb7 Tryz.func23 rfl Tryz.ntmps23 rfl fun w0 F0 out => ?_
 cases hL : r.large
 case true =>
   rw [hL] at hsma
   (repeat' (first | refine Za8 ?_ | refine Za1 ?_ | refine Za6 ?_ | (apply Za9; (first | exact Za4 rfl | (apply Za7; first | exact Zb6 (k := 0) rfl rfl rfl | exact Zb6 (k := 1) rfl rfl rfl) | (apply g_un; exact Zbg rfl)); exact rfl) | refine Zaq ?_ | refine Zb4 rfl ?_ | (apply Zaj; exact rfl; first | (apply Zao; (refine Zaw Tryz.func46 rfl hsma rfl ?_; rintro _ _ ⟨rfl, rfl⟩)) | (apply Zc9; refine Zbz rfl ?_; intro _) | (apply Zbi; refine Zba ?_; intro _) | (apply Zav; refine Zal (k := 0) (l0 := []) rfl rfl rfl ?_))))
   (refine ⟨.inr rfl, retw (loc' := []) (by first | exact ret2 rfl (.cella (k := 0) rfl rfl rfl rfl inferInstance rfl) (.tmp rfl) (List.nil_sublist _) ⟨rfl, rfl⟩) ?_ ⟨rfl, rfl⟩⟩)
   have e : r.resolve freeF = (RulesD.zero, 2) := by unfold RulesD.resolve; rw [hL]; rfl
   rw [e]
   exact Ims.tup (.cons (im_zeroU k) (.cons (.refl _) .nil))
 rw [hL] at hsma
 (repeat' (first | (apply Zaj; exact rfl; apply g_mkmap; refine WO_mkmap (κ := List UInt8) ?_; intro _) | (apply at_cat; refine WPL_frow (k := 0) (E := eSl eItem) (t := 47) [r.bonus, r.malus] rfl rfl rfl rfl ?_ (hc := by decide)) | (apply cuts_at 8; refine Stop.out ?_) | refine Za8 ?_ | refine Za1 ?_ | refine Za6 ?_ | (apply Za9; (first | exact Za3 rfl | exact Za4 rfl | exact Zb5 rfl rfl | (apply Za7; first | exact Zab (k := 1) rfl rfl rfl rfl | exact Zab (k := 3) rfl rfl rfl rfl | exact Zab (k := 7) rfl rfl rfl rfl | exact Zb6 (k := 1) rfl rfl rfl) | (apply Zat; exact Zaf rfl rfl rfl) | (apply g_un; exact Zbg rfl)); exact rfl) | refine Zag ?_ | refine Zb8 rfl ?_ | (apply Zaj; exact rfl; first | (apply Zao; first | (refine Zaw Tryz.func46 rfl hsma rfl ?_; rintro _ _ ⟨rfl, rfl⟩) | (refine Zby (.one 5 rfl (.dup 7 rfl rfl .nil)) Tryz.func47 rfl (hL0 _) rfl ?_; rintro _ _ ⟨rfl, rfl⟩) | (refine Zby (.one 5 rfl (.dup 7 rfl rfl .nil)) Tryz.func49 rfl (hL1 _) rfl ?_; rintro _ _ ⟨rfl, rfl⟩) | (refine Zby (.one 5 rfl (.dup 7 rfl rfl .nil)) Tryz.func52 rfl (hL2 _) rfl ?_; rintro _ _ ⟨rfl, rfl⟩) | (refine Zby (.one 5 rfl (.dup 7 rfl rfl .nil)) Tryz.func54 rfl (hL3 _) rfl ?_; rintro _ _ ⟨rfl, rfl⟩) | (refine Zaw Tryz.func50 rfl hcat rfl ?_; rintro _ _ ⟨rfl, rfl⟩)) | (apply Zc9; refine Zbz rfl ?_; intro _) | (apply Zbi; refine Zba ?_; intro _) | (apply Zav; first | refine Zal (k := 0) (l0 := []) rfl rfl rfl ?_ | refine Zal (k := 1) (l0 := []) rfl rfl rfl ?_) | (apply Zcb; (refine WO_bslice rfl (by repeat (first | exact PartsO.nil | (apply PartsO.cons; exact rfl; exact inferInstance; exact rfl; exact rfl))) ?_); intro _))))
 rename_i b1 b2 m0 m1 m2 m3 b4 b7 bs
 refine ⟨Zbn (env' := [(1, ex (.pointer (some ⟨b1, 0, none⟩))), (2, ex (.pointer (some ⟨b2, 0, none⟩))), (4, ex (.pointer (some ⟨b4, 0, none⟩))), (6, ex (.map (some m2))), (7, ex (.pointer (some ⟨b7, 0, none⟩))), (8, exB (r.n0.all freeF)), (9, exB (onceF r.n0)), (10, exB (r.n1.all freeF)), (11, exB (onceF r.n1)), (12, exB (r.n2.all freeF)), (13, exB (onceF r.n2)), (14, exB (r.n3.all freeF)), (15, exB (onceF r.n3))]) (loc' := [omap m3 (imapN r.n3 r.n3.length), omap m2 (imapN r.n2 r.n2.length), omap m0 (imapN r.n0 r.n0.length), row b7 80 1 [ex (.map (some m3))], row b4 80 1 [ex (.map (some m0))], row b2 28 9 [ex (.string .empty), ex (.slice none 0 0), ex (.slice none 0 0), ex (.slice none 0 0), ex (.slice none 0 0), ex (.slice none 0 0), ex (.slice none 0 0), ex (.slice none 0 0), ex (.int .i64 0)], row b1 28 9 (rulesV k r), Tab]) (Zae (by repeat (first | exact Zai | refine Zad rfl ?_)) (.cons_cons _ (.cons_cons _ (.cons _ (List.Sublist.refl _))))) ?_⟩
 by_cases hall : (freeF r.name && (r.n0.all freeF && (r.n1.all freeF && (r.n2.all freeF && r.n3.all freeF)))) = true
 case neg =>
   have e : r.resolve freeF = (RulesD.zero, 140) := by unfold RulesD.resolve; rw [hL, Bool.eq_false_iff.2 hall]; rfl
   rw [e]
   (repeat' (first | (apply cuts_at 10; refine Stop.out ?_) | refine Za8 ?_ | refine Za1 ?_ | refine Za6 ?_ | (apply Za9; (first | exact Za3 rfl | exact Za4 rfl | exact Zas (b := true) rfl (fun _ => rfl) (fun e => by cases e) | exact Zas (b := false) rfl (fun e => by cases e) (fun _ => rfl) | (apply Za7; exact Zb6 (k := 5) rfl rfl rfl) | (apply g_un; exact Zbg rfl)); exact rfl) | (refine Zbq rfl rfl rfl rfl rfl ?_) | (apply Zbt; exact rfl; exact rfl; exact rfl; (first | exact Za3 rfl | (apply Za7; exact Zab (k := 6) rfl rfl rfl rfl) | (apply Zat; exact Zaf rfl rfl rfl) | (apply g_un; exact Zbg rfl)); exact rfl) | refine Zag ?_ | refine Zaq ?_ | refine Zb4 rfl ?_ | (apply Zaj; exact rfl; (apply Zav; refine Zal (k := 5) (l0 := []) rfl rfl rfl ?_)) | (apply Zc8; exact rfl; exact rfl; exact rfl; exact rfl; (apply Zao; (refine Zby (.dup 7 rfl rfl .nil) Tryz.func56 rfl (free_any _) rfl ?_; rintro _ _ ⟨rfl, rfl⟩))) | (refine Zbm rfl rfl (fun hb => ?_) (fun hb => ?_) <;> (repeat (first | replace hb := Zbr hb | replace hb := Zbs hb)) <;> (try (exfalso; fail))) | (refine Zac rfl (fun hb => ?_) (fun hb => ?_) <;> (repeat (first | replace hb := Zbr hb | replace hb := Zbs hb)) <;> (try (exfalso; fail)))))
   all_goals first | ((refine ⟨.inr rfl, retw (loc' := []) (by exact ret2 rfl (.cella (k := 5) rfl rfl rfl rfl inferInstance rfl) (.tmp rfl) (List.nil_sublist _) ⟨rfl, rfl⟩) ?_ ⟨rfl, rfl⟩⟩); exact Ims.tup (.cons (im_zeroU k) (.cons (.refl _) .nil))) | (exfalso; apply hall; simp only [*, Bool.and_true])
 have hall2 := hall
 simp only [Bool.and_eq_true] at hall2
 obtain ⟨ha, h0, h1, h2, h3⟩ := hall2
 rw [h0, h1, h2, h3]
 have hfre := free_any r.name
 rw [ha] at hfre
 by_cases hon : r.once = true
 case neg =>
   have e : r.resolve freeF = (RulesD.zero, 141) := by unfold RulesD.resolve; rw [hL, hall, Bool.eq_false_iff.2 hon]; rfl
   rw [e]
   (repeat' (first | (apply cut_at 12; refine Stop.out ?_) | refine Za8 ?_ | refine Za1 ?_ | refine Za6 ?_ | (apply Za9; (first | exact Za3 rfl | exact Za4 rfl | exact Zas (b := true) rfl (fun _ => rfl) (fun e => by cases e) | exact Zas (b := false) rfl (fun e => by cases e) (fun _ => rfl) | (apply Za7; exact Zb6 (k := 5) rfl rfl rfl) | (apply g_un; exact Zbg rfl)); exact rfl) | (refine Zbq rfl rfl rfl rfl rfl ?_) | (apply Zbt; exact rfl; exact rfl; exact rfl; (first | exact Za3 rfl | (apply Za7; exact Zab (k := 6) rfl rfl rfl rfl) | (apply Zat; exact Zaf rfl rfl rfl) | (apply g_un; exact Zbg rfl)); exact rfl) | refine Zag ?_ | refine Zaq ?_ | refine Zb4 rfl ?_ | refine Zb8 rfl ?_ | (apply Zaj; exact rfl; (apply Zav; refine Zal (k := 5) (l0 := []) rfl rfl rfl ?_)) | (apply Zc8; exact rfl; exact rfl; exact rfl; exact rfl; (apply Zao; (refine Zby (.dup 7 rfl rfl .nil) Tryz.func56 rfl hfre rfl ?_; rintro _ _ ⟨rfl, rfl⟩))) | (refine Zbm rfl rfl (fun hb => ?_) (fun hb => ?_) <;> (repeat (first | replace hb := Zbr hb | replace hb := Zbs hb)) <;> (try (exfalso; fail))) | (refine Zac rfl (fun hb => ?_) (fun hb => ?_) <;> (repeat (first | replace hb := Zbr hb | replace hb := Zbs hb)) <;> (try (exfalso; fail)))))
   all_goals first | ((refine ⟨.inr rfl, retw (loc' := []) (by exact ret2 rfl (.cella (k := 5) rfl rfl rfl rfl inferInstance rfl) (.tmp rfl) (List.nil_sublist _) ⟨rfl, rfl⟩) ?_ ⟨rfl, rfl⟩⟩); exact Ims.tup (.cons (im_zeroU k) (.cons (.refl _) .nil))) | (exfalso; apply hon; unfold RulesD.once; simp only [*, Bool.and_true])
 have hon2 := hon
 unfold RulesD.once at hon2
 simp only [Bool.and_eq_true] at hon2
 obtain ⟨o0, o1, o2, o3⟩ := hon2
 rw [o0, o1, o2, o3]
 (repeat' (first | (apply Za9; (first | exact WT_mkfunc (vs := [_]) rfl | exact WT_mkfunc (vs := [_, _, _, _]) rfl); exact rfl) | (apply cut_at 16; refine Stop.out ?_) | refine Za8 ?_ | refine Za1 ?_ | refine Za6 ?_ | (apply Za9; (first | exact Za3 rfl | exact Zas (b := false) rfl (fun e => by cases e) (fun _ => rfl) | (apply g_un; exact Zbg rfl)); exact rfl) | (apply Zbt; exact rfl; exact rfl; exact rfl; (first | exact Za3 rfl | (apply Za7; exact Zab (k := 6) rfl rfl rfl rfl) | (apply Zat; exact Zaf rfl rfl rfl) | (apply g_un; exact Zbg rfl)); exact rfl) | refine Zag ?_ | refine Zb8 rfl ?_ | (apply Zaj; exact rfl; first | (apply Zbi; refine Zba ?_; intro _) | (apply Zav; refine Zal (k := 0) (l0 := []) rfl rfl rfl ?_)) | (apply Zc8; exact rfl; exact rfl; exact rfl; exact rfl; (apply Zao; (refine Zby (.dup 7 rfl rfl .nil) Tryz.func56 rfl hfre rfl ?_; rintro _ _ ⟨rfl, rfl⟩)))))
 rename_i bl b17 b18
 constructor
 have e : r.resolve freeF = (if !r.allOk then (RulesD.zero, (140 : Int)) else (r.resolved, 0)) := by unfold RulesD.resolve; rw [hL, hall, hon]; rfl
 rw [e]
 refine Zbn (env' := [(1, ex (.pointer (some ⟨b1, 0, none⟩))), (2, ex (.pointer (some ⟨b2, 0, none⟩))), (4, ex (.pointer (some ⟨b4, 0, none⟩))), (6, ex (.map (some m2))), (7, ex (.pointer (some ⟨b7, 0, none⟩))), (16, ex (.pointer (some ⟨bl, 0, none⟩))), (17, ex (.pointer (some ⟨b17, 0, none⟩))), (18, ex (.pointer (some ⟨b18, 0, none⟩)))]) (loc' := [row b18 _ 1 [ex (EXPR b17 b4 b7 b18)], row b17 _ 1 [ex (FIND bl)], row bl 4 1 [exB false], omap m3 (imapN r.n3 r.n3.length), omap m2 (imapN r.n2 r.n2.length), omap m0 (imapN r.n0 r.n0.length), row b7 _ 1 [ex (.map (some m3))], row b4 _ 1 [ex (.map (some m0))], row b2 28 9 [ex (.string .empty), ex (.slice none 0 0), ex (.slice none 0 0), ex (.slice none 0 0), ex (.slice none 0 0), ex (.slice none 0 0), ex (.slice none 0 0), ex (.slice none 0 0), ex (.int .i64 0)], row b1 28 9 (rulesV k r), Tab]) (Zae (by repeat (first | exact Zai | refine Zad rfl ?_)) (List.Sublist.refl _)) ?_
 refine Zbn (Leads_fmapcell (j := 3) (k := 5) (i := 0) rfl rfl rfl) ?_
 refine Zbn (Leads_fmapcell (j := 4) (k := 5) (i := 0) rfl rfl rfl) ?_
 refine Zbn (Leads_fmap (k := 3) (t := 6) rfl rfl) ?_
 refine Zbn (Leads_fpx (k := 4) (t := 4) rfl rfl) ?_
 refine Zbn (Leads_fpx (k := 3) (t := 7) rfl rfl) ?_
 refine Zbn (Leads_fpx (k := 1) (t := 17) rfl rfl) ?_
 refine Zbn (Leads_fpx (k := 0) (t := 18) rfl rfl) ?_
 refine Zbn (env' := [(1, ex (.pointer (some ⟨b1, 0, none⟩))), (2, ex (.pointer (some ⟨b2, 0, none⟩))), (4, fpx b4 [fmap (imapN r.n0 r.n0.length)]), (6, fmap (imapN r.n2 r.n2.length)), (7, fpx b7 [fmap (imapN r.n3 r.n3.length)]), (16, ex (.pointer (some ⟨bl, 0, none⟩))), (17, fpx b17 [ex (FIND bl)]), (18, fpx b18 [ex (EXPR b17 b4 b7 b18)])]) (loc' := [row bl 4 1 [exB false], row b2 28 9 [ex (.string .empty), ex (.slice none 0 0), ex (.slice none 0 0), ex (.slice none 0 0), ex (.slice none 0 0), ex (.slice none 0 0), ex (.slice none 0 0), ex (.slice none 0 0), ex (.int .i64 0)], row b1 28 9 (rulesV k r)]) (Zae (by repeat (first | exact Zai | refine Zad rfl ?_)) (.cons_cons _ (.cons_cons _ (.cons_cons _ (.cons _ .slnil))))) ?_
 exact nres_rest k r hf (imapN r.n0 r.n0.length) (imapN r.n2 r.n2.length) (imapN r.n3 r.n3.length) (imapN_look _ o0) (imapN_look _ o2) (imapN_look _ o3) w0 F0 out b1 b2 bl b4 b7 b17 b18
end Go.Proofs.YthldagplhklbnaaGreatDoor
namespace Go.Proofs.YthldagplhklbnaaGreatDoor
open Go Go.RowKit Go.Kx Go.Fr
def all2 {α β : Type} (p : α → β → Bool) : List α → List β → Bool
 | [], [] => true
 | x :: xs, y :: ys => p x y && all2 p xs ys
 | _, _ => false
theorem all2_iff {α β : Type} {p : α → β → Bool} : ∀ {a : List α} {b : List β}, all2 p a b = true ↔ a.length = b.length ∧ ∀ i (h1 : i < a.length) (h2 : i < b.length), p a[i] b[i] = true
 | [], [] => by simp [all2]
 | [], y :: b => by simp [all2]
 | x :: a, [] => by simp [all2]
 | x :: a, y :: b => by
   rw [all2, Bool.and_eq_true, all2_iff]
   constructor
   · rintro ⟨h, hl, hi⟩
     refine ⟨by simp [hl], fun i h1 h2 => ?_⟩
     cases i with
     | zero => exact h
     | succ i => exact hi i (by simpa using h1) (by simpa using h2)
   · rintro ⟨hl, hi⟩
     exact ⟨hi 0 (by simp) (by simp), by simpa using hl, fun i h1 h2 => hi (i + 1) (by simpa using h1) (by simpa using h2)⟩
theorem all2_eq {α : Type} [DecidableEq α] {a b : List α} : all2 (fun x y => decide (x = y)) a b = decide (a = b) := by
 rw [Bool.eq_iff_iff, all2_iff, decide_eq_true_iff]
 simp only [decide_eq_true_eq]
 exact ⟨fun ⟨h, hi⟩ => List.ext_getElem h hi, fun h => by subst h; exact ⟨rfl, fun _ _ _ => rfl⟩⟩
set_option maxRecDepth 100000 in
theorem eqKey_any (a b : List KeyD) : FnC Tryz.prog 26 [isl eKey a, isl eKey b] [] (fun p loc => p = exB (decide (a = b)) ∧ loc = []) := by
 refine Zbe (i := 0) rfl Zbl fun ha => ?_
 refine Zbe (i := 1) rfl Zbl fun hb => ?_
 obtain ⟨ha, -⟩ := ha
 obtain ⟨hb, -⟩ := hb
 simp only [maxLen] at ha hb
 refine Zb7 Tryz.func26 rfl Tryz.ntmps26 rfl fun w0 F0 out => ?_
 by_cases hl : a.length = b.length
 · (repeat' (first | refine Za8 ?_ | refine Za1 ?_ | refine Za6 ?_ | (apply Za9; (first | exact Za3 rfl | exact Za4 rfl | (apply Zah; exact Zc3 rfl rfl) | (apply Zax; exact Zb3 rfl rfl)); exact rfl) | refine Zaa ?_ | refine Zag ?_ | (refine Zac rfl (fun hb => ?_) (fun hb => ?_) <;> (repeat (first | replace hb := Zam hb | replace hb := Zan hb | replace hb := Zbr hb | replace hb := Zbs hb)) <;> (try (exfalso; omega)))))
   all_goals (try (exfalso; omega))
   refine Zbv (fun k : Nat => ([(0, isl eKey a), (1, isl eKey b), (12, exI .i64 a.length), (13, exI .i64 k)], [])) (fun k => k ≤ a.length ∧ a.take k = b.take k) (fun k => a.length - k) 0 ?_ ⟨Nat.zero_le _, rfl⟩ fun k hk => ?_
   · exact Zae (by repeat (first | exact Zai | refine Zad rfl ?_)) (List.Sublist.refl _)
   obtain ⟨hk, ht⟩ := hk
   by_cases hlt : k < a.length
   · by_cases he : a[k] = b[k]'(by omega)
     · (repeat' (first | refine Za8 ?_ | refine Za1 ?_ | refine Za6 ?_ | (apply Za9; (first | exact Za3 rfl | exact Za4 rfl | (apply Zah; exact Zau rfl rfl)); exact rfl) | refine Zaa ?_ | refine Zag ?_ | (refine Zac rfl (fun hb => ?_) (fun hb => ?_) <;> (repeat (first | replace hb := Zam hb | replace hb := Zan hb)) <;> (try (exfalso; omega)))))
       (refine Zbx 9 rfl ?_)
       all_goals ((apply Za2 0 rfl (by decide +kernel) rfl (by repeat (first | exact Za5)) Za0; (first | exact Za3 rfl); exact rfl))
       all_goals ((apply Za2 1 rfl (by decide +kernel) rfl (by repeat (first | exact Za5)) Za0; (first | exact Za3 rfl); exact rfl))
       all_goals ((apply Za2 2 rfl (by decide +kernel) rfl (by repeat (first | exact Za5)) Za0; (first | (apply Zak; first | exact Zar rfl rfl rfl)); exact rfl))
       all_goals ((apply Zb0 3 rfl (by decide +kernel) rfl (by decide +kernel) (by repeat (exact Za5)) Za0; ((apply Za7; exact Zb2 rfl rfl)); exact rfl))
       all_goals ((apply Za2 4 rfl (by decide +kernel) rfl (by repeat (first | exact Za5)) Za0; (first | exact Za3 rfl); exact rfl))
       all_goals ((apply Za2 5 rfl (by decide +kernel) rfl (by repeat (first | exact Za5)) Za0; (first | exact Za3 rfl); exact rfl))
       all_goals ((apply Za2 6 rfl (by decide +kernel) rfl (by repeat (first | exact Za5)) Za0; (first | (apply Zak; first | exact Zar rfl rfl rfl)); exact rfl))
       all_goals ((apply Zb0 7 rfl (by decide +kernel) rfl (by decide +kernel) (by repeat (exact Za5)) Za0; ((apply Za7; exact Zb2 rfl rfl)); exact rfl))
       all_goals ((apply Za2 8 rfl (by decide +kernel) rfl (by repeat (first | exact Za5)) Za0; (first | (apply Zah; first | exact WT_aneD inferInstance rfl rfl)); exact rfl))
       all_goals (refine Zb9 (by decide +kernel) ?_)
       all_goals ((repeat' (first | refine Za8 ?_ | refine Za1 ?_ | refine Za6 ?_ | (apply Za9; (first | exact Za3 rfl | exact Za4 rfl | (apply Zah; exact Zbf rfl rfl)); exact rfl) | refine Zag ?_ | refine Zaq ?_ | (refine Zac rfl (fun hb => ?_) (fun hb => ?_) <;> (repeat (first | replace hb := Zam hb | replace hb := Zan hb | replace hb := Zbr hb | replace hb := Zbs hb)) <;> (try (exfalso; fail))))))
       all_goals (try (exfalso; simp_all; done))
       exact ⟨k + 1, ⟨by omega, by rw [List.take_succ_eq_append_getElem hlt, List.take_succ_eq_append_getElem (by omega), ht, he]⟩, by omega, Zae (by repeat (first | exact Zai | refine Zad rfl ?_)) (List.Sublist.refl _)⟩
     · (repeat' (first | refine Za8 ?_ | refine Za1 ?_ | refine Za6 ?_ | (apply Za9; (first | exact Za3 rfl | exact Za4 rfl | (apply Zah; exact Zau rfl rfl)); exact rfl) | refine Zaa ?_ | refine Zag ?_ | (refine Zac rfl (fun hb => ?_) (fun hb => ?_) <;> (repeat (first | replace hb := Zam hb | replace hb := Zan hb)) <;> (try (exfalso; omega)))))
       (refine Zbx 9 rfl ?_)
       all_goals ((apply Za2 0 rfl (by decide +kernel) rfl (by repeat (first | exact Za5)) Za0; (first | exact Za3 rfl); exact rfl))
       all_goals ((apply Za2 1 rfl (by decide +kernel) rfl (by repeat (first | exact Za5)) Za0; (first | exact Za3 rfl); exact rfl))
       all_goals ((apply Za2 2 rfl (by decide +kernel) rfl (by repeat (first | exact Za5)) Za0; (first | (apply Zak; first | exact Zar rfl rfl rfl)); exact rfl))
       all_goals ((apply Zb0 3 rfl (by decide +kernel) rfl (by decide +kernel) (by repeat (exact Za5)) Za0; ((apply Za7; exact Zb2 rfl rfl)); exact rfl))
       all_goals ((apply Za2 4 rfl (by decide +kernel) rfl (by repeat (first | exact Za5)) Za0; (first | exact Za3 rfl); exact rfl))
       all_goals ((apply Za2 5 rfl (by decide +kernel) rfl (by repeat (first | exact Za5)) Za0; (first | exact Za3 rfl); exact rfl))
       all_goals ((apply Za2 6 rfl (by decide +kernel) rfl (by repeat (first | exact Za5)) Za0; (first | (apply Zak; first | exact Zar rfl rfl rfl)); exact rfl))
       all_goals ((apply Zb0 7 rfl (by decide +kernel) rfl (by decide +kernel) (by repeat (exact Za5)) Za0; ((apply Za7; exact Zb2 rfl rfl)); exact rfl))
       all_goals ((apply Za2 8 rfl (by decide +kernel) rfl (by repeat (first | exact Za5)) Za0; (first | (apply Zah; first | exact WT_aneD inferInstance rfl rfl)); exact rfl))
       all_goals (refine Zb9 (by decide +kernel) ?_)
       all_goals ((repeat' (first | refine Za8 ?_ | refine Za1 ?_ | refine Za6 ?_ | (apply Za9; (first | exact Za3 rfl | exact Za4 rfl | (apply Zah; exact Zbf rfl rfl)); exact rfl) | refine Zag ?_ | refine Zaq ?_ | (refine Zac rfl (fun hb => ?_) (fun hb => ?_) <;> (repeat (first | replace hb := Zam hb | replace hb := Zan hb | replace hb := Zbr hb | replace hb := Zbs hb)) <;> (try (exfalso; fail))))))
       all_goals (try (exfalso; simp_all; done))
       refine ⟨.inr rfl, ret1 rfl (.tmp rfl) (List.nil_sublist _) ⟨congrArg exB ?_, rfl⟩⟩
       exact (decide_eq_false fun e => he (by subst e; rfl)).symm
   · have hk9 : k = a.length := by omega
     subst hk9
     rw [List.take_length, hl, List.take_length] at ht
     (repeat' (first | refine Za8 ?_ | refine Za1 ?_ | refine Za6 ?_ | (apply Za9; (first | exact Za4 rfl | (apply Zah; exact Zau rfl rfl)); exact rfl) | refine Zaq ?_ | refine Zbk ?_ | (refine Zac rfl (fun hb => ?_) (fun hb => ?_) <;> (repeat (first | replace hb := Zam hb | replace hb := Zan hb)) <;> (try (exfalso; omega)))))
     refine ⟨.inr rfl, ret1 rfl (.tmp rfl) (List.nil_sublist _) ⟨congrArg exB ?_, rfl⟩⟩
     exact (decide_eq_true ht).symm
 · (repeat' (first | refine Za8 ?_ | refine Za1 ?_ | refine Za6 ?_ | (apply Za9; (first | exact Za3 rfl | exact Za4 rfl | (apply Zah; exact Zc3 rfl rfl) | (apply Zax; exact Zb3 rfl rfl)); exact rfl) | refine Zaq ?_ | (refine Zac rfl (fun hb => ?_) (fun hb => ?_) <;> (repeat (first | replace hb := Zam hb | replace hb := Zan hb | replace hb := Zbr hb | replace hb := Zbs hb)) <;> (try (exfalso; omega)))))
   all_goals (try (exfalso; omega))
   refine ⟨.inr rfl, ret1 rfl (.tmp rfl) (List.nil_sublist _) ⟨congrArg exB ?_, rfl⟩⟩
   exact (decide_eq_false fun e => hl (by rw [e])).symm
set_option maxHeartbeats 1000000 in
set_option maxRecDepth 100000 in
theorem eqfExpr_any (k j : Nat) (a b : List Ex) (hp : ∀ x y : Ex, FnC Tryz.prog 29 [agg (exV k x), agg (exV j y)] [] (fun p loc => p = exB (decide (x = y)) ∧ loc = [])) : FnC Tryz.prog 63 [isl (eEx k) a, isl (eEx j) b, ex (.func (.func 29) #[] #[])] [] (fun p loc => p = exB (all2 (fun x y => decide (x = y)) a b) ∧ loc = []) := by
 refine Zbe (i := 0) rfl Zbl fun ha => ?_
 refine Zbe (i := 1) rfl Zbl fun hb => ?_
 obtain ⟨ha, -⟩ := ha
 obtain ⟨hb, -⟩ := hb
 simp only [maxLen] at ha hb
 refine Zb7 Tryz.func63 rfl Tryz.ntmps63 rfl fun w0 F0 out => ?_
 by_cases hl : a.length = b.length
 · (repeat' (first | refine Za8 ?_ | refine Za1 ?_ | refine Za6 ?_ | (apply Za9; (first | exact Za3 rfl | exact Za4 rfl | (apply Zah; exact Zc3 rfl rfl) | (apply Zax; exact Zb3 rfl rfl)); exact rfl) | refine Zaa ?_ | refine Zag ?_ | (refine Zac rfl (fun hb => ?_) (fun hb => ?_) <;> (repeat (first | replace hb := Zam hb | replace hb := Zan hb | replace hb := Zbr hb | replace hb := Zbs hb)) <;> (try (exfalso; omega)))))
   all_goals (try (exfalso; omega))
   refine Zbv (fun q : Nat => ([(1, isl (eEx j) b), (2, ex (.func (.func 29) #[] #[])), (15, isl (eEx k) a), (16, exI .i64 a.length), (17, exI .i64 q)], [])) (fun q => q ≤ a.length ∧ ∀ i (h1 : i < a.length) (h2 : i < b.length), i < q → (fun x y : Ex => decide (x = y)) a[i] b[i] = true) (fun q => a.length - q) 0 ?_ ⟨Nat.zero_le _, fun i _ _ h => absurd h (by omega)⟩ fun m hm => ?_
   · exact Zae (by repeat (first | exact Zai | refine Zad rfl ?_)) (List.Sublist.refl _)
   obtain ⟨hm, hpre⟩ := hm
   by_cases hlt : m < a.length
   · have hlt2 : m < b.length := by omega
     have hcall := hp a[m] b[m]
     cases he : (fun x y : Ex => decide (x = y)) a[m] b[m]
     · try simp only at he
       rw [he] at hcall
       (repeat' (first | refine Za8 ?_ | refine Za1 ?_ | refine Za6 ?_ | (apply Za9; (first | exact Za3 rfl | exact Za4 rfl | (apply Za7; first | exact Zb2 rfl rfl | exact Zb6 (k := 0) rfl rfl rfl | exact Zb6 (k := 1) rfl rfl rfl) | (apply Zah; exact Zau rfl rfl) | (apply Zak; exact Zar rfl rfl rfl) | (apply g_un; exact Zbg rfl)); exact rfl) | refine Zaa ?_ | refine Zag ?_ | refine Zaq ?_ | refine Zb4 rfl ?_ | (apply Zaj; exact rfl; first | (apply Zao; (refine WO_callv (vs := []) (args := [_, _]) rfl Tryz.func29 rfl hcall rfl ?_; rintro _ _ ⟨rfl, rfl⟩)) | (apply Zbi; refine Zba ?_; intro _) | (apply Zav; refine Zal (k := 0) (l0 := []) rfl rfl rfl ?_)) | (refine Zac rfl (fun hb => ?_) (fun hb => ?_) <;> (repeat (first | replace hb := Zam hb | replace hb := Zan hb)) <;> (try (exfalso; omega)))))
       all_goals (try (exfalso; first | contradiction | omega))
       refine ⟨.inr rfl, ret1 rfl (.tmp rfl) (List.nil_sublist _) ⟨congrArg exB ?_, rfl⟩⟩
       symm
       rw [Bool.eq_false_iff]
       intro h
       have h3 := (all2_iff.1 h).2 m hlt hlt2
       try simp only at h3
       rw [he] at h3
       cases h3
     · have he2 := he
       try simp only at he
       rw [he] at hcall
       (repeat' (first | refine Za8 ?_ | refine Za1 ?_ | refine Za6 ?_ | (apply Za9; (first | exact Za3 rfl | exact Za4 rfl | (apply Za7; first | exact Zb2 rfl rfl | exact Zb6 (k := 0) rfl rfl rfl | exact Zb6 (k := 1) rfl rfl rfl) | (apply Zah; first | exact Zau rfl rfl | exact Zbf rfl rfl) | (apply Zak; exact Zar rfl rfl rfl) | (apply g_un; exact Zbg rfl)); exact rfl) | refine Zaa ?_ | refine Zag ?_ | refine Zb8 rfl ?_ | (apply Zaj; exact rfl; first | (apply Zao; (refine WO_callv (vs := []) (args := [_, _]) rfl Tryz.func29 rfl hcall rfl ?_; rintro _ _ ⟨rfl, rfl⟩)) | (apply Zbi; refine Zba ?_; intro _) | (apply Zav; refine Zal (k := 0) (l0 := []) rfl rfl rfl ?_)) | (refine Zac rfl (fun hb => ?_) (fun hb => ?_) <;> (repeat (first | replace hb := Zam hb | replace hb := Zan hb)) <;> (try (exfalso; omega)))))
       all_goals (try (exfalso; first | contradiction | omega))
       refine ⟨m + 1, ⟨by omega, fun i h1 h2 h3 => ?_⟩, by omega, Zae (by repeat (first | exact Zai | refine Zad rfl ?_)) (List.nil_sublist _)⟩
       rcases Nat.lt_or_ge i m with h | h
       · exact hpre i h1 h2 h
       · have : i = m := by omega
         subst this
         exact he2
   · (repeat' (first | refine Za8 ?_ | refine Za1 ?_ | refine Za6 ?_ | (apply Za9; (first | exact Za4 rfl | (apply Zah; exact Zau rfl rfl)); exact rfl) | refine Zaq ?_ | refine Zbk ?_ | (refine Zac rfl (fun hb => ?_) (fun hb => ?_) <;> (repeat (first | replace hb := Zam hb | replace hb := Zan hb)) <;> (try (exfalso; omega)))))
     all_goals (try (exfalso; omega))
     refine ⟨.inr rfl, ret1 rfl (.tmp rfl) (List.nil_sublist _) ⟨congrArg exB ?_, rfl⟩⟩
     exact (all2_iff.2 ⟨hl, fun i h1 h2 => hpre i h1 h2 (by omega)⟩).symm
 · (repeat' (first | refine Za8 ?_ | refine Za1 ?_ | refine Za6 ?_ | (apply Za9; (first | exact Za3 rfl | exact Za4 rfl | (apply Zah; exact Zc3 rfl rfl) | (apply Zax; exact Zb3 rfl rfl)); exact rfl) | refine Zaq ?_ | (refine Zac rfl (fun hb => ?_) (fun hb => ?_) <;> (repeat (first | replace hb := Zam hb | replace hb := Zan hb | replace hb := Zbr hb | replace hb := Zbs hb)) <;> (try (exfalso; omega)))))
   all_goals (try (exfalso; omega))
   refine ⟨.inr rfl, ret1 rfl (.tmp rfl) (List.nil_sublist _) ⟨congrArg exB ?_, rfl⟩⟩
   symm
   rw [Bool.eq_false_iff]
   exact fun h => hl (all2_iff.1 h).1
set_option maxHeartbeats 1000000 in
set_option maxRecDepth 100000 in
theorem eqfTie_any (a b : List TieD) (hp : ∀ x y : TieD, FnC Tryz.prog 25 [agg (tieV x), agg (tieV y)] [] (fun p loc => p = exB (decide (x.keys = y.keys)) ∧ loc = [])) : FnC Tryz.prog 24 [isl eTie a, isl eTie b, ex (.func (.func 25) #[] #[])] [] (fun p loc => p = exB (all2 (fun x y => decide (x.keys = y.keys)) a b) ∧ loc = []) := by
 refine Zbe (i := 0) rfl Zbl fun ha => ?_
 refine Zbe (i := 1) rfl Zbl fun hb => ?_
 obtain ⟨ha, -⟩ := ha
 obtain ⟨hb, -⟩ := hb
 simp only [maxLen] at ha hb
 refine Zb7 Tryz.func24 rfl Tryz.ntmps24 rfl fun w0 F0 out => ?_
 by_cases hl : a.length = b.length
 · (repeat' (first | refine Za8 ?_ | refine Za1 ?_ | refine Za6 ?_ | (apply Za9; (first | exact Za3 rfl | exact Za4 rfl | (apply Zah; exact Zc3 rfl rfl) | (apply Zax; exact Zb3 rfl rfl)); exact rfl) | refine Zaa ?_ | refine Zag ?_ | (refine Zac rfl (fun hb => ?_) (fun hb => ?_) <;> (repeat (first | replace hb := Zam hb | replace hb := Zan hb | replace hb := Zbr hb | replace hb := Zbs hb)) <;> (try (exfalso; omega)))))
   all_goals (try (exfalso; omega))
   refine Zbv (fun q : Nat => ([(1, isl eTie b), (2, ex (.func (.func 25) #[] #[])), (15, isl eTie a), (16, exI .i64 a.length), (17, exI .i64 q)], [])) (fun q => q ≤ a.length ∧ ∀ i (h1 : i < a.length) (h2 : i < b.length), i < q → (fun x y : TieD => decide (x.keys = y.keys)) a[i] b[i] = true) (fun q => a.length - q) 0 ?_ ⟨Nat.zero_le _, fun i _ _ h => absurd h (by omega)⟩ fun m hm => ?_
   · exact Zae (by repeat (first | exact Zai | refine Zad rfl ?_)) (List.Sublist.refl _)
   obtain ⟨hm, hpre⟩ := hm
   by_cases hlt : m < a.length
   · have hlt2 : m < b.length := by omega
     have hcall := hp a[m] b[m]
     cases he : (fun x y : TieD => decide (x.keys = y.keys)) a[m] b[m]
     · try simp only at he
       rw [he] at hcall
       (repeat' (first | refine Za8 ?_ | refine Za1 ?_ | refine Za6 ?_ | (apply Za9; (first | exact Za3 rfl | exact Za4 rfl | (apply Za7; first | exact Zb2 rfl rfl | exact Zb6 (k := 0) rfl rfl rfl | exact Zb6 (k := 1) rfl rfl rfl) | (apply Zah; exact Zau rfl rfl) | (apply Zak; exact Zar rfl rfl rfl) | (apply g_un; exact Zbg rfl)); exact rfl) | refine Zaa ?_ | refine Zag ?_ | refine Zaq ?_ | refine Zb4 rfl ?_ | (apply Zaj; exact rfl; first | (apply Zao; (refine WO_callv (vs := []) (args := [_, _]) rfl Tryz.func25 rfl hcall rfl ?_; rintro _ _ ⟨rfl, rfl⟩)) | (apply Zbi; refine Zba ?_; intro _) | (apply Zav; refine Zal (k := 0) (l0 := []) rfl rfl rfl ?_)) | (refine Zac rfl (fun hb => ?_) (fun hb => ?_) <;> (repeat (first | replace hb := Zam hb | replace hb := Zan hb)) <;> (try (exfalso; omega)))))
       all_goals (try (exfalso; first | contradiction | omega))
       refine ⟨.inr rfl, ret1 rfl (.tmp rfl) (List.nil_sublist _) ⟨congrArg exB ?_, rfl⟩⟩
       symm
       rw [Bool.eq_false_iff]
       intro h
       have h3 := (all2_iff.1 h).2 m hlt hlt2
       try simp only at h3
       rw [he] at h3
       cases h3
     · have he2 := he
       try simp only at he
       rw [he] at hcall
       (repeat' (first | refine Za8 ?_ | refine Za1 ?_ | refine Za6 ?_ | (apply Za9; (first | exact Za3 rfl | exact Za4 rfl | (apply Za7; first | exact Zb2 rfl rfl | exact Zb6 (k := 0) rfl rfl rfl | exact Zb6 (k := 1) rfl rfl rfl) | (apply Zah; first | exact Zau rfl rfl | exact Zbf rfl rfl) | (apply Zak; exact Zar rfl rfl rfl) | (apply g_un; exact Zbg rfl)); exact rfl) | refine Zaa ?_ | refine Zag ?_ | refine Zb8 rfl ?_ | (apply Zaj; exact rfl; first | (apply Zao; (refine WO_callv (vs := []) (args := [_, _]) rfl Tryz.func25 rfl hcall rfl ?_; rintro _ _ ⟨rfl, rfl⟩)) | (apply Zbi; refine Zba ?_; intro _) | (apply Zav; refine Zal (k := 0) (l0 := []) rfl rfl rfl ?_)) | (refine Zac rfl (fun hb => ?_) (fun hb => ?_) <;> (repeat (first | replace hb := Zam hb | replace hb := Zan hb)) <;> (try (exfalso; omega)))))
       all_goals (try (exfalso; first | contradiction | omega))
       refine ⟨m + 1, ⟨by omega, fun i h1 h2 h3 => ?_⟩, by omega, Zae (by repeat (first | exact Zai | refine Zad rfl ?_)) (List.nil_sublist _)⟩
       rcases Nat.lt_or_ge i m with h | h
       · exact hpre i h1 h2 h
       · have : i = m := by omega
         subst this
         exact he2
   · (repeat' (first | refine Za8 ?_ | refine Za1 ?_ | refine Za6 ?_ | (apply Za9; (first | exact Za4 rfl | (apply Zah; exact Zau rfl rfl)); exact rfl) | refine Zaq ?_ | refine Zbk ?_ | (refine Zac rfl (fun hb => ?_) (fun hb => ?_) <;> (repeat (first | replace hb := Zam hb | replace hb := Zan hb)) <;> (try (exfalso; omega)))))
     all_goals (try (exfalso; omega))
     refine ⟨.inr rfl, ret1 rfl (.tmp rfl) (List.nil_sublist _) ⟨congrArg exB ?_, rfl⟩⟩
     exact (all2_iff.2 ⟨hl, fun i h1 h2 => hpre i h1 h2 (by omega)⟩).symm
 · (repeat' (first | refine Za8 ?_ | refine Za1 ?_ | refine Za6 ?_ | (apply Za9; (first | exact Za3 rfl | exact Za4 rfl | (apply Zah; exact Zc3 rfl rfl) | (apply Zax; exact Zb3 rfl rfl)); exact rfl) | refine Zaq ?_ | (refine Zac rfl (fun hb => ?_) (fun hb => ?_) <;> (repeat (first | replace hb := Zam hb | replace hb := Zan hb | replace hb := Zbr hb | replace hb := Zbs hb)) <;> (try (exfalso; omega)))))
   all_goals (try (exfalso; omega))
   refine ⟨.inr rfl, ret1 rfl (.tmp rfl) (List.nil_sublist _) ⟨congrArg exB ?_, rfl⟩⟩
   symm
   rw [Bool.eq_false_iff]
   exact fun h => hl (all2_iff.1 h).1
set_option maxHeartbeats 1000000 in
set_option maxRecDepth 100000 in
theorem eqfRound_any (k j : Nat) (a b : List RoundD) (hp : ∀ x y : RoundD, FnC Tryz.prog 28 [agg (roundV k x), agg (roundV j y)] [] (fun p loc => p = exB ((decide (x.tieNo = y.tieNo) && decide (x.score = y.score))) ∧ loc = [])) : FnC Tryz.prog 27 [isl (eRound k) a, isl (eRound j) b, ex (.func (.func 28) #[] #[])] [] (fun p loc => p = exB (all2 (fun x y => (decide (x.tieNo = y.tieNo) && decide (x.score = y.score))) a b) ∧ loc = []) := by
 refine Zbe (i := 0) rfl Zbl fun ha => ?_
 refine Zbe (i := 1) rfl Zbl fun hb => ?_
 obtain ⟨ha, -⟩ := ha
 obtain ⟨hb, -⟩ := hb
 simp only [maxLen] at ha hb
 refine Zb7 Tryz.func27 rfl Tryz.ntmps27 rfl fun w0 F0 out => ?_
 by_cases hl : a.length = b.length
 · (repeat' (first | refine Za8 ?_ | refine Za1 ?_ | refine Za6 ?_ | (apply Za9; (first | exact Za3 rfl | exact Za4 rfl | (apply Zah; exact Zc3 rfl rfl) | (apply Zax; exact Zb3 rfl rfl)); exact rfl) | refine Zaa ?_ | refine Zag ?_ | (refine Zac rfl (fun hb => ?_) (fun hb => ?_) <;> (repeat (first | replace hb := Zam hb | replace hb := Zan hb | replace hb := Zbr hb | replace hb := Zbs hb)) <;> (try (exfalso; omega)))))
   all_goals (try (exfalso; omega))
   refine Zbv (fun q : Nat => ([(1, isl (eRound j) b), (2, ex (.func (.func 28) #[] #[])), (15, isl (eRound k) a), (16, exI .i64 a.length), (17, exI .i64 q)], [])) (fun q => q ≤ a.length ∧ ∀ i (h1 : i < a.length) (h2 : i < b.length), i < q → (fun x y : RoundD => (decide (x.tieNo = y.tieNo) && decide (x.score = y.score))) a[i] b[i] = true) (fun q => a.length - q) 0 ?_ ⟨Nat.zero_le _, fun i _ _ h => absurd h (by omega)⟩ fun m hm => ?_
   · exact Zae (by repeat (first | exact Zai | refine Zad rfl ?_)) (List.Sublist.refl _)
   obtain ⟨hm, hpre⟩ := hm
   by_cases hlt : m < a.length
   · have hlt2 : m < b.length := by omega
     have hcall := hp a[m] b[m]
     cases he : (fun x y : RoundD => (decide (x.tieNo = y.tieNo) && decide (x.score = y.score))) a[m] b[m]
     · try simp only at he
       rw [he] at hcall
       (repeat' (first | refine Za8 ?_ | refine Za1 ?_ | refine Za6 ?_ | (apply Za9; (first | exact Za3 rfl | exact Za4 rfl | (apply Za7; first | exact Zb2 rfl rfl | exact Zb6 (k := 0) rfl rfl rfl | exact Zb6 (k := 1) rfl rfl rfl) | (apply Zah; exact Zau rfl rfl) | (apply Zak; exact Zar rfl rfl rfl) | (apply g_un; exact Zbg rfl)); exact rfl) | refine Zaa ?_ | refine Zag ?_ | refine Zaq ?_ | refine Zb4 rfl ?_ | (apply Zaj; exact rfl; first | (apply Zao; (refine WO_callv (vs := []) (args := [_, _]) rfl Tryz.func28 rfl hcall rfl ?_; rintro _ _ ⟨rfl, rfl⟩)) | (apply Zbi; refine Zba ?_; intro _) | (apply Zav; refine Zal (k := 0) (l0 := []) rfl rfl rfl ?_)) | (refine Zac rfl (fun hb => ?_) (fun hb => ?_) <;> (repeat (first | replace hb := Zam hb | replace hb := Zan hb)) <;> (try (exfalso; omega)))))
       all_goals (try (exfalso; first | contradiction | omega))
       refine ⟨.inr rfl, ret1 rfl (.tmp rfl) (List.nil_sublist _) ⟨congrArg exB ?_, rfl⟩⟩
       symm
       rw [Bool.eq_false_iff]
       intro h
       have h3 := (all2_iff.1 h).2 m hlt hlt2
       try simp only at h3
       rw [he] at h3
       cases h3
     · have he2 := he
       try simp only at he
       rw [he] at hcall
       (repeat' (first | refine Za8 ?_ | refine Za1 ?_ | refine Za6 ?_ | (apply Za9; (first | exact Za3 rfl | exact Za4 rfl | (apply Za7; first | exact Zb2 rfl rfl | exact Zb6 (k := 0) rfl rfl rfl | exact Zb6 (k := 1) rfl rfl rfl) | (apply Zah; first | exact Zau rfl rfl | exact Zbf rfl rfl) | (apply Zak; exact Zar rfl rfl rfl) | (apply g_un; exact Zbg rfl)); exact rfl) | refine Zaa ?_ | refine Zag ?_ | refine Zb8 rfl ?_ | (apply Zaj; exact rfl; first | (apply Zao; (refine WO_callv (vs := []) (args := [_, _]) rfl Tryz.func28 rfl hcall rfl ?_; rintro _ _ ⟨rfl, rfl⟩)) | (apply Zbi; refine Zba ?_; intro _) | (apply Zav; refine Zal (k := 0) (l0 := []) rfl rfl rfl ?_)) | (refine Zac rfl (fun hb => ?_) (fun hb => ?_) <;> (repeat (first | replace hb := Zam hb | replace hb := Zan hb)) <;> (try (exfalso; omega)))))
       all_goals (try (exfalso; first | contradiction | omega))
       refine ⟨m + 1, ⟨by omega, fun i h1 h2 h3 => ?_⟩, by omega, Zae (by repeat (first | exact Zai | refine Zad rfl ?_)) (List.nil_sublist _)⟩
       rcases Nat.lt_or_ge i m with h | h
       · exact hpre i h1 h2 h
       · have : i = m := by omega
         subst this
         exact he2
   · (repeat' (first | refine Za8 ?_ | refine Za1 ?_ | refine Za6 ?_ | (apply Za9; (first | exact Za4 rfl | (apply Zah; exact Zau rfl rfl)); exact rfl) | refine Zaq ?_ | refine Zbk ?_ | (refine Zac rfl (fun hb => ?_) (fun hb => ?_) <;> (repeat (first | replace hb := Zam hb | replace hb := Zan hb)) <;> (try (exfalso; omega)))))
     all_goals (try (exfalso; omega))
     refine ⟨.inr rfl, ret1 rfl (.tmp rfl) (List.nil_sublist _) ⟨congrArg exB ?_, rfl⟩⟩
     exact (all2_iff.2 ⟨hl, fun i h1 h2 => hpre i h1 h2 (by omega)⟩).symm
 · (repeat' (first | refine Za8 ?_ | refine Za1 ?_ | refine Za6 ?_ | (apply Za9; (first | exact Za3 rfl | exact Za4 rfl | (apply Zah; exact Zc3 rfl rfl) | (apply Zax; exact Zb3 rfl rfl)); exact rfl) | refine Zaq ?_ | (refine Zac rfl (fun hb => ?_) (fun hb => ?_) <;> (repeat (first | replace hb := Zam hb | replace hb := Zan hb | replace hb := Zbr hb | replace hb := Zbs hb)) <;> (try (exfalso; omega)))))
   all_goals (try (exfalso; omega))
   refine ⟨.inr rfl, ret1 rfl (.tmp rfl) (List.nil_sublist _) ⟨congrArg exB ?_, rfl⟩⟩
   symm
   rw [Bool.eq_false_iff]
   exact fun h => hl (all2_iff.1 h).1
set_option maxHeartbeats 1000000 in
set_option maxRecDepth 100000 in
theorem nsame_any : ∀ (k j : Nat) (x y : Ex), FnC Tryz.prog 29 [agg (exV k x), agg (exV j y)] [] (fun p loc => p = exB (decide (x = y)) ∧ loc = []) := by
 intro k
 induction k with
 | zero => intro j x y; exact Zbe (i := 0) rfl Says_ex0 fun h => h.elim
 | succ k ih =>
   intro j x y
   cases j with
   | zero => exact Zbe (i := 1) rfl Says_ex0 fun h => h.elim
   | succ j =>
     show FnC Tryz.prog 29 [agg [exI .i64 x.kind, exT x.name, exI .i64 x.n, exI .i64 x.d, isl (eEx k) x.l], agg [exI .i64 y.kind, exT y.name, exI .i64 y.n, exI .i64 y.d, isl (eEx j) y.l]] [] (fun p loc => p = exB (decide (x = y)) ∧ loc = [])
     have hcall := eqfExpr_any k j x.l y.l (ih j)
     rw [all2_eq] at hcall
     refine Zb7 Tryz.func29 rfl Tryz.ntmps29 rfl fun w0 F0 out => ?_
     (repeat' (first | refine Za8 ?_ | refine Za1 ?_ | refine Za6 ?_ | (apply Za9; (first | exact Za3 rfl | exact Za4 rfl | exact Zas (b := true) rfl (fun _ => rfl) (fun e => by cases e) | exact Zas (b := false) rfl (fun e => by cases e) (fun _ => rfl) | (apply Za7; first | exact Zab (k := 0) rfl rfl rfl rfl | exact Zab (k := 1) rfl rfl rfl rfl) | (apply Zat; exact Zaf rfl rfl rfl) | (apply Zah; exact Zcd rfl rfl)); exact rfl) | (refine Zbq rfl rfl rfl rfl rfl ?_) | (apply Zbt; exact rfl; exact rfl; exact rfl; (first | (apply Za7; first | exact Zab (k := 0) rfl rfl rfl rfl | exact Zab (k := 1) rfl rfl rfl rfl) | (apply Zat; exact Zaf rfl rfl rfl) | (apply Zah; first | exact WT_teq rfl rfl | exact Zcd rfl rfl)); exact rfl) | refine Zaq ?_ | (apply Zaj; exact rfl; (apply Zc9; refine Zbz rfl ?_; intro _)) | (apply Zc8; exact rfl; exact rfl; exact rfl; exact rfl; (apply Zao; (refine Zaw Tryz.func63 rfl hcall rfl ?_; rintro _ _ ⟨rfl, rfl⟩))) | (refine Zbm rfl rfl (fun hb => ?_) (fun hb => ?_) <;> (repeat (first | replace hb := Zam hb | replace hb := Zan hb)) <;> (try (exfalso; fail)))))
     all_goals (refine ⟨.inr rfl, ret1 rfl (.tmp rfl) (List.nil_sublist _) ⟨congrArg exB ?_, rfl⟩⟩)
     all_goals (rw [Bool.eq_iff_iff]; simp only [decide_eq_true_eq, Ex.ext_iff' x y, Bool.false_eq_true, false_iff, *])
     all_goals simp
set_option maxRecDepth 100000 in
theorem nC1_any (x y : TieD) : FnC Tryz.prog 25 [agg (tieV x), agg (tieV y)] [] (fun p loc => p = exB (decide (x.keys = y.keys)) ∧ loc = []) := by
 refine Zb7 Tryz.func25 rfl Tryz.ntmps25 rfl fun w0 F0 out => ?_
 (repeat' (first | refine Za8 ?_ | refine Za1 ?_ | refine Za6 ?_ | (apply Za9; (first | exact Za4 rfl | (apply Za7; first | exact Zab (k := 0) rfl rfl rfl rfl | exact Zab (k := 1) rfl rfl rfl rfl) | (apply Zat; exact Zaf rfl rfl rfl)); exact rfl) | refine Zaq ?_ | (apply Zaj; exact rfl; first | (apply Zao; (refine Zaw Tryz.func26 rfl (eqKey_any _ _) rfl ?_; rintro _ _ ⟨rfl, rfl⟩)) | (apply Zc9; refine Zbz rfl ?_; intro _))))
 exact ⟨.inr rfl, ret1 rfl (.tmp rfl) (List.nil_sublist _) ⟨rfl, rfl⟩⟩
set_option maxRecDepth 100000 in
theorem nC2_any (k j : Nat) (x y : RoundD) : FnC Tryz.prog 28 [agg (roundV k x), agg (roundV j y)] [] (fun p loc => p = exB (decide (x.tieNo = y.tieNo) && decide (x.score = y.score)) ∧ loc = []) := by
 refine Zb7 Tryz.func28 rfl Tryz.ntmps28 rfl fun w0 F0 out => ?_
 (repeat' (first | refine Za8 ?_ | refine Za1 ?_ | refine Za6 ?_ | (apply Za9; (first | exact Za3 rfl | exact Za4 rfl | exact Zas (b := true) rfl (fun _ => rfl) (fun e => by cases e) | exact Zas (b := false) rfl (fun e => by cases e) (fun _ => rfl) | (apply Za7; first | exact Zab (k := 0) rfl rfl rfl rfl | exact Zab (k := 1) rfl rfl rfl rfl) | (apply Zat; exact Zaf rfl rfl rfl) | (apply Zah; exact Zcd rfl rfl)); exact rfl) | (refine Zbq rfl rfl rfl rfl rfl ?_) | (apply Zbt; exact rfl; exact rfl; exact rfl; (first | (apply Za7; first | exact Zb6 (k := 0) rfl rfl rfl | exact Zb6 (k := 1) rfl rfl rfl) | (apply Zat; exact Zaf rfl rfl rfl)); exact rfl) | refine Zaq ?_ | (apply Zaj; exact rfl; (apply Zc9; refine Zbz rfl ?_; intro _)) | (apply Zc8; exact rfl; exact rfl; exact rfl; exact rfl; (apply Zao; (refine Zaw Tryz.func29 rfl (nsame_any _ _ _ _) rfl ?_; rintro _ _ ⟨rfl, rfl⟩))) | (refine Zbm rfl rfl (fun hb => ?_) (fun hb => ?_) <;> (repeat (first | replace hb := Zam hb | replace hb := Zan hb)) <;> (try (exfalso; fail)))))
 all_goals (refine ⟨.inr rfl, ret1 rfl (.tmp rfl) (List.nil_sublist _) ⟨congrArg exB ?_, rfl⟩⟩)
 all_goals simp [*]
end Go.Proofs.YthldagplhklbnaaGreatDoor
namespace Go.Proofs.YthldagplhklbnaaGreatDoor
open Go Go.RowKit Go.Kx Go.Fr
theorem resolve_ok {fr : List UInt8 → Bool} {r : RulesD} (h : (r.resolve fr).2 = 0) : (r.resolve fr).1 = r.resolved := by
 revert h
 unfold RulesD.resolve
 split
 · exact fun h => absurd h (by decide)
 split
 · exact fun h => absurd h (by decide)
 split
 · exact fun h => absurd h (by decide)
 split
 · exact fun h => absurd h (by decide)
 exact fun _ => rfl
theorem check_tie (r : RulesD) : all2 (fun x y : TieD => decide (x.keys = y.keys)) (r.ties.map r.tieN) r.ties = decide (r.ties.map r.tieN = r.ties) := by
 rw [Bool.eq_iff_iff, all2_iff, decide_eq_true_iff]
 simp only [decide_eq_true_eq]
 refine ⟨fun ⟨h, hi⟩ => List.ext_getElem h fun i h1 h2 => ?_, fun h => ⟨by rw [h], fun i h1 h2 => ?_⟩⟩
 · have h3 := hi i h1 h2
   rw [List.getElem_map] at h3 ⊢
   have hn : (r.tieN r.ties[i]).name = r.ties[i].name := rfl
   generalize r.tieN r.ties[i] = x at h3 hn ⊢
   generalize r.ties[i] = y at h3 hn ⊢
   cases x; cases y; simp_all
 · simp only [h]
theorem check_round (r : RulesD) : all2 (fun x y : RoundD => (decide (x.tieNo = y.tieNo) && decide (x.score = y.score))) (r.rounds.map r.roundN) r.rounds = decide (r.rounds.map r.roundN = r.rounds) := by
 rw [Bool.eq_iff_iff, all2_iff, decide_eq_true_iff]
 simp only [decide_eq_true_eq, Bool.and_eq_true]
 refine ⟨fun ⟨h, hi⟩ => List.ext_getElem h fun i h1 h2 => ?_, fun h => ⟨by rw [h], fun i h1 h2 => ?_⟩⟩
 · have h3 := hi i h1 h2
   rw [List.getElem_map] at h3 ⊢
   exact (round_iff _ _).2 ⟨rfl, rfl, rfl, rfl, rfl, rfl, rfl, h3.1, h3.2⟩
 · simp only [h, and_self]
theorem check_eq (r : RulesD) : (decide (r.ties.map r.tieN = r.ties) && decide (r.rounds.map r.roundN = r.rounds)) = decide (r.resolved = r) := by
 rw [Bool.eq_iff_iff]
 simp only [Bool.and_eq_true, decide_eq_true_eq]
 unfold RulesD.resolved
 constructor
 · rintro ⟨h1, h2⟩; rw [h1, h2]
 · intro h; exact ⟨congrArg RulesD.ties h, congrArg RulesD.rounds h⟩
set_option maxHeartbeats 1000000 in
set_option maxRecDepth 100000 in
theorem ncheck_any (k : Nat) (r : RulesD) (hf : r.few = true) : FnC Tryz.prog 13 [rul k r] [Tab] (fun p loc => p = exI .i64 (r.check freeF) ∧ loc = []) := by
 have hres := nresolve_any k r hf
 have hck : r.check freeF = if (r.resolve freeF).2 ≠ 0 then (r.resolve freeF).2 else if (r.resolve freeF).1 = r then 0 else 140 := rfl
 have hok := @resolve_ok freeF r
 generalize r.resolve freeF = z at hres hck hok
 obtain ⟨x, c⟩ := z
 simp only at hres hck hok
 refine Zb7 Tryz.func13 rfl Tryz.ntmps13 rfl fun w0 F0 out => ?_
 by_cases hc : c = 0
 · subst hc
   have hx := hok rfl
   rw [if_neg (by simp)] at hck
   subst hx
   have e1 : r.resolved.ties = r.ties.map r.tieN := rfl
   have e2 : r.resolved.rounds = r.rounds.map r.roundN := rfl
   have hce := check_eq r
   rw [← check_tie, ← check_round, ← e1, ← e2] at hce
   (repeat' (first | refine Za8 ?_ | refine Za1 ?_ | refine Za6 ?_ | (apply Za9; (first | exact Za3 rfl | exact Za4 rfl | exact Zas (b := true) rfl (fun _ => rfl) (fun e => by cases e) | exact Zas (b := false) rfl (fun e => by cases e) (fun _ => rfl) | exact Zb5 rfl rfl | (apply Za7; first | exact Zab (k := 0) rfl rfl rfl rfl | exact Zab (k := 1) rfl rfl rfl rfl | exact Zb6 (k := 0) rfl rfl rfl) | (apply Zat; exact Zaf rfl rfl rfl) | (apply Zah; exact Zc3 rfl rfl) | (apply g_un; exact Zbg rfl)); exact rfl) | (refine Zbq rfl rfl rfl rfl rfl ?_) | (apply Zbt; exact rfl; exact rfl; exact rfl; (first | exact Za3 rfl | (apply g_un; exact Zbg rfl)); exact rfl) | refine Zag ?_ | refine Zaq ?_ | refine Zb4 rfl ?_ | refine Zb8 rfl ?_ | (apply Zaj; exact rfl; first | (apply Zao; first | (refine Zby (.dup 1 rfl rfl .nil) Tryz.func23 rfl hres rfl ?_; rintro _ _ ⟨rfl, rfl⟩) | (refine Zaw Tryz.func24 rfl (eqfTie_any _ _ nC1_any) rfl ?_; rintro _ _ ⟨rfl, rfl⟩) | (refine Zaw Tryz.func27 rfl (eqfRound_any k k _ _ (nC2_any k k)) rfl ?_; rintro _ _ ⟨rfl, rfl⟩)) | (apply Zc9; refine Zbz rfl ?_; intro _) | (apply Zbi; refine Zba ?_; intro _) | (apply Zav; refine Zal (k := 0) (l0 := []) rfl rfl rfl ?_)) | (refine Zbm rfl rfl (fun hb => ?_) (fun hb => ?_) <;> (repeat (first | replace hb := Zbr hb | replace hb := Zbs hb)) <;> (try (exfalso; fail))) | (refine Zac rfl (fun hb => ?_) (fun hb => ?_) <;> (repeat (first | replace hb := Zbr hb | replace hb := Zbs hb)) <;> (try (exfalso; fail)))))
   all_goals (try (exfalso; first | contradiction | omega))
   all_goals (refine ⟨.inr rfl, ret1 rfl (.tmp rfl) (List.nil_sublist _) ⟨congrArg (exI .i64) ?_, rfl⟩⟩)
   all_goals (rw [hck]; by_cases hr : r.resolved = r)
   all_goals first | rw [if_pos hr] | rw [if_neg hr]
   all_goals first | rfl | skip
   all_goals exfalso
   all_goals first | rw [decide_eq_true hr] at hce | rw [decide_eq_false hr] at hce
   all_goals first | (rw [hb] at hce; cases hce; done) | (rename_i ha; rw [ha, hb] at hce; cases hce; done) | skip
 · rw [if_pos hc] at hck
   rw [hck]
   (repeat' (first | refine Za8 ?_ | refine Za1 ?_ | refine Za6 ?_ | (apply Za9; (first | exact Za3 rfl | exact Za4 rfl | exact Zb5 rfl rfl | (apply Za7; exact Zb6 (k := 0) rfl rfl rfl) | (apply Zah; exact Zc3 rfl rfl)); exact rfl) | refine Zaq ?_ | (apply Zaj; exact rfl; first | (apply Zao; (refine Zby (.dup 1 rfl rfl .nil) Tryz.func23 rfl hres rfl ?_; rintro _ _ ⟨rfl, rfl⟩)) | (apply Zc9; refine Zbz rfl ?_; intro _) | (apply Zbi; refine Zba ?_; intro _) | (apply Zav; refine Zal (k := 0) (l0 := []) rfl rfl rfl ?_)) | (refine Zac rfl (fun hb => ?_) (fun hb => ?_) <;> (repeat (first | replace hb := Zam hb | replace hb := Zan hb | replace hb := Zbr hb | replace hb := Zbs hb)) <;> (try (exfalso; omega)))))
   all_goals (try (exfalso; first | contradiction | omega))
   all_goals (exact ⟨.inr rfl, ret1 rfl (.tmp rfl) (List.nil_sublist _) ⟨rfl, rfl⟩⟩)
end Go.Proofs.YthldagplhklbnaaGreatDoor
