/- Expanded keys as the program finds them, in plain words. No program in sight. -/
import Derived.Test.YthldagplhklbnaaGreatDoorPart6
import Derived.Test.YthldagplhklbnaaGreatDoorPart3
import Derived.Test.YthldagplhklbnaaGreatDoorPart5
import Derived.Test.YthldagplhklbnaaGreatDoorPart4
namespace Go.Fr
open Go.RowKit Go.Kx
structure XS where
 l : List (List KeyD)
 circle : Bool
 long : Bool
def expStep (g : Nat → XS → List KeyD × XS) (a : List KeyD × XS) (k : KeyD) : List KeyD × XS := if k.kind = 5 then (a.1 ++ (g k.n.toNat a.2).1, (g k.n.toNat a.2).2) else (a.1 ++ [k], a.2)
def keysAt (ties : List TieD) (i : Nat) : List KeyD := ((ties[i]?).map (·.keys)).getD []
def expDone (i : Nat) (a : List KeyD × XS) : List KeyD × XS := (a.1.take 33, ⟨a.2.l.set i (a.1.take 33), a.2.circle, a.2.long || decide (32 < a.1.length)⟩)
def expF (ties : List TieD) : Nat → List Nat → Nat → XS → List KeyD × XS
 | 0, _, _, s => ([], s)
 | f + 1, opn, i, s => if i ∈ opn then ([], ⟨s.l, true, s.long⟩) else if 0 < (s.l.getD i []).length then (s.l.getD i [], s) else
   expDone i ((keysAt ties i).foldl (expStep (fun j s => expF ties f (opn ++ [i]) j s)) ([], s))
def XS.ok (n : Nat) (s : XS) : Prop := s.l.length = n ∧ ∀ x ∈ s.l, x.length ≤ 33
theorem foldl_take {α β : Type} {g : β → α → β} {l : List α} {a : β} {q : Nat} (h : q < l.length) : (l.take (q + 1)).foldl g a = g ((l.take q).foldl g a) l[q] := by
 rw [List.take_succ_eq_append_getElem h, List.foldl_append]; rfl
theorem fold_ok {n : Nat} {g : Nat → XS → List KeyD × XS} (hg : ∀ j s, s.ok n → (g j s).2.ok n ∧ (g j s).1.length ≤ 33) : ∀ (l : List KeyD) (a : List KeyD × XS), a.2.ok n → (l.foldl (expStep g) a).2.ok n ∧ (l.foldl (expStep g) a).1.length ≤ a.1.length + 33 * l.length
 | [], a, h => ⟨h, by simp⟩
 | k :: l, a, h => by
   have h1 : (expStep g a k).2.ok n ∧ (expStep g a k).1.length ≤ a.1.length + 33 := by
     unfold expStep
     split
     · have := hg k.n.toNat a.2 h
       exact ⟨this.1, by simp only [List.length_append]; omega⟩
     · exact ⟨h, by simp⟩
   have h2 := fold_ok hg l (expStep g a k) h1.1
   exact ⟨h2.1, by have := h2.2; rw [List.foldl_cons, List.length_cons]; omega⟩
theorem getD_le {l : List (List KeyD)} (h : ∀ x ∈ l, x.length ≤ 33) (i : Nat) : (l.getD i []).length ≤ 33 := by
 rw [List.getD_eq_getElem?_getD]
 cases hx : l[i]? with
 | none => simp
 | some x => exact h x (List.mem_of_getElem? hx)
theorem expDone_ok {n i : Nat} {a : List KeyD × XS} (h : a.2.ok n) : (expDone i a).2.ok n ∧ (expDone i a).1.length ≤ 33 := by
 have hl : (a.1.take 33).length ≤ 33 := by rw [List.length_take]; omega
 refine ⟨⟨by simp [expDone, h.1], fun x hx => ?_⟩, hl⟩
 rcases List.mem_or_eq_of_mem_set hx with h1 | rfl
 · exact h.2 x h1
 · exact hl
theorem expF_ok (ties : List TieD) {n : Nat} : ∀ (f : Nat) (opn : List Nat) (i : Nat) (s : XS), s.ok n → (expF ties f opn i s).2.ok n ∧ (expF ties f opn i s).1.length ≤ 33
 | 0, _, _, s, h => ⟨h, by simp [expF]⟩
 | f + 1, opn, i, s, h => by
   unfold expF
   split
   · exact ⟨h, by simp⟩
   · split
     · exact ⟨h, getD_le h.2 i⟩
     · exact expDone_ok (fold_ok (fun j s hs => expF_ok ties f _ j s hs) _ _ h).1
theorem pigeon : ∀ (n : Nat) (l : List Nat), l.Nodup → (∀ x ∈ l, x < n) → l.length ≤ n
 | 0, l, _, h => by
   cases l with
   | nil => simp
   | cons a l => exact absurd (h a (by simp)) (by omega)
 | n + 1, l, hd, h => by
   by_cases hn : n ∈ l
   · have h1 := pigeon n (l.erase n) (hd.erase n) fun x hx => by
       have := (hd.mem_erase_iff.1 hx)
       have := h x this.2
       omega
     rw [List.length_erase_of_mem hn] at h1
     omega
   · have := pigeon n l hd fun x hx => by
       have h2 := h x hx
       have : x ≠ n := fun e => hn (e ▸ hx)
       omega
     omega
def expAll (ties : List TieD) : XS := (List.range ties.length).foldl (fun s i => (expF ties (ties.length + 1) [] i s).2) ⟨List.replicate ties.length [], false, false⟩
def expansionF (ties : List TieD) : List (List KeyD) × Int := if (expAll ties).circle then ([], 151) else if (expAll ties).long then ([], 2) else ((expAll ties).l, 0)
namespace RulesD
def linked (r : RulesD) : Prop := ∀ t ∈ r.ties, t.keys.length ≤ 32 ∧ ∀ k ∈ t.keys, k.kind = 5 → 0 ≤ k.n ∧ k.n < r.ties.length
end RulesD
end Go.Fr
namespace Go.Fr
open Go.RowKit Go.Kx
theorem at_regionR (id : Nat) {C : Cx} {ops : Array Oper} {dr : Bool} {y : Code} {T : Exit → Act → World → Prop} {env : Env} {loc : List Ent} (h : WPR C (.seq (.region id ops dr) y) T env loc) : WPR C (.seq (.region id ops dr) y) T env loc := h
def om (l : List Nat) : List (Int × SP) := l.map fun i : Nat => ((i : Int), exB true)
theorem mlook_om : ∀ (l : List Nat) (i : Nat), mlook (om l) (i : Int) = if i ∈ l then some (exB true) else none
 | [], i => rfl
 | a :: l, i => by
   show (if (i : Int) = (a : Int) then some (exB true) else mlook (om l) (i : Int)) = _
   rw [mlook_om l i]
   by_cases h : i = a
   · subst h; simp
   · rw [if_neg (by omega)]; simp [h]
theorem mput_om (l : List Nat) (i : Nat) (h : i ∉ l) : mput (om l) (i : Int) (exB true) = om l ++ [((i : Int), exB true)] := mput_new _ (by rw [mlook_om, if_neg h])
theorem om_add (l : List Nat) (i : Nat) : om (l ++ [i]) = om l ++ [((i : Int), exB true)] := by simp [om]
end Go.Fr
namespace Go.Proofs.YthldagplhklbnaaGreatDoor
open Go Go.RowKit Go.Kx Go.Fr
def xsL (bm b5 b2 bL b6 T2 tot n c : Nat) (opn : List Nat) (s : XS) : List Ent := [omap bm (om opn), row b5 4 1 [exB s.circle], row b2 T2 1 [ex (.slice (some ⟨bL, 0, none⟩) n c)], row bL 33 tot (s.l.map (isl eKey)), row b6 4 1 [exB s.long]]
set_option maxHeartbeats 4000000 in
set_option maxRecDepth 100000 in
theorem expand15_any (kk : Nat) (r : RulesD) (hr : r.linked) (b4 bm b5 b2 b7 b6 bL T2 tot c : Nat) : ∀ (f : Nat) (opn : List Nat) (i : Nat) (s : XS), s.ok r.ties.length → opn.Nodup → (∀ x ∈ opn, x < r.ties.length) → i < r.ties.length → r.ties.length + 1 ≤ f + opn.length → FnC Tryz.prog 89 [exI .i64 (i : Int), fpx b4 [ex (.map (some bm))], ex (.pointer (some ⟨b5, 0, none⟩)), ex (.pointer (some ⟨b2, 0, none⟩)), fp (rulesV kk r), fpx b7 [clos (.func 89) [fpx b4 [ex (.map (some bm))], ex (.pointer (some ⟨b5, 0, none⟩)), ex (.pointer (some ⟨b2, 0, none⟩)), fp (rulesV kk r), ex (.pointer (some ⟨b7, 0, none⟩)), ex (.pointer (some ⟨b6, 0, none⟩))]], ex (.pointer (some ⟨b6, 0, none⟩))] (xsL bm b5 b2 bL b6 T2 tot r.ties.length c opn s) (fun p loc => p = isl eKey (expF r.ties f opn i s).1 ∧ loc = xsL bm b5 b2 bL b6 T2 tot r.ties.length c opn (expF r.ties f opn i s).2) := by
 intro f
 induction f with
 | zero => intro opn i s _ hnd hlt _ hf; exact absurd (pigeon _ _ hnd hlt) (by omega)
 | succ f ih =>
   intro opn i s hs hnd hlt hi hf
   have hlk := mlook_om opn i
   have hsl : i < s.l.length := by rw [hs.1]; exact hi
   have hcell : (s.l.map (isl eKey))[0 + i * 1]? = some (isl eKey s.l[i]) := by rw [Nat.zero_add, Nat.mul_one, List.getElem?_map, List.getElem?_eq_getElem hsl]; rfl
   have hgd : s.l.getD i [] = s.l[i] := by rw [List.getD_eq_getElem?_getD, List.getElem?_eq_getElem hsl]; rfl
   unfold expF
   rw [hgd]
   by_cases ho : i ∈ opn
   · rw [if_pos ho] at hlk ⊢
     unfold xsL
     refine FnC_enterB Tryz.func89 rfl Tryz.ntmps89 rfl fun w0 F0 out => ?_
     (repeat' (first | refine Zcr ?_ | (apply Za9; (apply Zc4; exact WT_lookv (k := (i : Int)) (j := 0) rfl rfl rfl hlk rfl rfl ⟨_, rfl⟩ trivial); exact rfl) | refine Za8 ?_ | refine Za1 ?_ | refine Za6 ?_ | (apply Za9; (first | exact Za3 rfl | exact Za4 rfl | (apply Za7; exact Zcf rfl rfl)); exact rfl) | refine Zaa ?_ | refine Zaq ?_ | refine Zb4 rfl ?_ | (apply Zaj; exact rfl; (apply Zav; refine Zal (k := 1) (l0 := []) rfl rfl rfl ?_))))
     refine raw_retB0 rfl ?_
     refine retP_leads (Leads_up (t := 8) (q := isl eKey []) rfl Im.nil) ?_
     exact ⟨.inr rfl, ret1 rfl (.tmp rfl) (List.Sublist.refl (xsL bm b5 b2 bL b6 T2 tot r.ties.length c opn ⟨s.l, true, s.long⟩)) ⟨rfl, rfl⟩⟩
   · rw [if_neg ho] at hlk ⊢
     by_cases hlen : 0 < s.l[i].length
     · rw [if_pos hlen]
       unfold xsL
       refine FnC_enterB Tryz.func89 rfl Tryz.ntmps89 rfl fun w0 F0 out => ?_
       (repeat' (first | refine Zcr ?_ | (apply Za9; (apply Zc4; exact WT_lookv0 (k := (i : Int)) (j := 0) rfl rfl rfl hlk rfl rfl ⟨_, rfl⟩ trivial); exact rfl) | refine Za8 ?_ | refine Za1 ?_ | refine Za6 ?_ | (apply Za9; (first | exact Za3 rfl | exact Za4 rfl | (apply Za7; first | exact Zcf rfl rfl | exact Zab (k := 2) rfl rfl rfl rfl | exact Zab (k := 3) rfl rfl (by assumption) rfl) | (apply Zah; exact Zcc rfl rfl) | (apply Zak; exact Zc0 rfl rfl rfl) | (apply Zax; exact Zb3 rfl rfl)); exact rfl) | refine Zaa ?_ | refine Zaq ?_ | refine Zb8 rfl ?_ | (refine Zac rfl (fun hb => ?_) (fun hb => ?_) <;> (repeat (first | replace hb := Zam hb | replace hb := Zan hb)) <;> (try (exfalso; omega)))))
       all_goals (try (exfalso; omega))
       refine raw_retB0 rfl ?_
       exact ⟨.inr rfl, ret1 rfl (.tmp rfl) (List.Sublist.refl (xsL bm b5 b2 bL b6 T2 tot r.ties.length c opn s)) ⟨rfl, rfl⟩⟩
     · rw [if_neg hlen]
       have hkt : r.ties[i]? = some r.ties[i] := List.getElem?_eq_getElem hi
       have hka : keysAt r.ties i = r.ties[i].keys := by unfold keysAt; rw [hkt]; rfl
       rw [hka]
       obtain ⟨hk32, hkr⟩ := hr r.ties[i] (List.getElem_mem hi)
       have hnd2 : (opn ++ [i]).Nodup := List.nodup_append.2 ⟨hnd, by simp, fun a ha b hb => by simp at hb; subst hb; exact fun e => ho (e ▸ ha)⟩
       have hlt2 : ∀ x ∈ opn ++ [i], x < r.ties.length := fun x hx => by
         rcases List.mem_append.1 hx with h | h
         · exact hlt x h
         · rw [List.mem_singleton.1 h]; exact hi
       have hre : ∀ (q : Nat) (h : q < r.ties[i].keys.length) (h5 : r.ties[i].keys[q].kind = 5) (s1 : XS), s1.ok r.ties.length → FnC Tryz.prog 89 [exI .i64 r.ties[i].keys[q].n, fpx b4 [ex (.map (some bm))], ex (.pointer (some ⟨b5, 0, none⟩)), ex (.pointer (some ⟨b2, 0, none⟩)), fp (rulesV kk r), fpx b7 [clos (.func 89) [fpx b4 [ex (.map (some bm))], ex (.pointer (some ⟨b5, 0, none⟩)), ex (.pointer (some ⟨b2, 0, none⟩)), fp (rulesV kk r), ex (.pointer (some ⟨b7, 0, none⟩)), ex (.pointer (some ⟨b6, 0, none⟩))]], ex (.pointer (some ⟨b6, 0, none⟩))] (xsL bm b5 b2 bL b6 T2 tot r.ties.length c (opn ++ [i]) s1) (fun p loc => p = isl eKey (expF r.ties f (opn ++ [i]) r.ties[i].keys[q].n.toNat s1).1 ∧ loc = xsL bm b5 b2 bL b6 T2 tot r.ties.length c (opn ++ [i]) (expF r.ties f (opn ++ [i]) r.ties[i].keys[q].n.toNat s1).2) := fun q h h5 s1 hs1 => by
         have hb := hkr _ (List.getElem_mem h) h5
         have := ih (opn ++ [i]) r.ties[i].keys[q].n.toNat s1 hs1 hnd2 hlt2 (by omega) (by simp; omega)
         rw [Int.toNat_of_nonneg hb.1] at this
         exact this
       clear ih
       generalize hG : (fun j s => expF r.ties f (opn ++ [i]) j s) = G
       have hGok : ∀ j s, s.ok r.ties.length → (G j s).2.ok r.ties.length ∧ (G j s).1.length ≤ 33 := fun j s h => by rw [← hG]; exact expF_ok _ _ _ _ _ h
       have hre2 : ∀ (q : Nat) (h : q < r.ties[i].keys.length) (h5 : r.ties[i].keys[q].kind = 5) (s1 : XS), s1.ok r.ties.length → FnC Tryz.prog 89 [exI .i64 r.ties[i].keys[q].n, fpx b4 [ex (.map (some bm))], ex (.pointer (some ⟨b5, 0, none⟩)), ex (.pointer (some ⟨b2, 0, none⟩)), fp (rulesV kk r), fpx b7 [clos (.func 89) [fpx b4 [ex (.map (some bm))], ex (.pointer (some ⟨b5, 0, none⟩)), ex (.pointer (some ⟨b2, 0, none⟩)), fp (rulesV kk r), ex (.pointer (some ⟨b7, 0, none⟩)), ex (.pointer (some ⟨b6, 0, none⟩))]], ex (.pointer (some ⟨b6, 0, none⟩))] (xsL bm b5 b2 bL b6 T2 tot r.ties.length c (opn ++ [i]) s1) (fun p loc => p = isl eKey (G r.ties[i].keys[q].n.toNat s1).1 ∧ loc = xsL bm b5 b2 bL b6 T2 tot r.ties.length c (opn ++ [i]) (G r.ties[i].keys[q].n.toNat s1).2) := by rw [← hG]; exact hre
       clear hre hG
       unfold xsL
       refine FnC_enterB Tryz.func89 rfl Tryz.ntmps89 rfl fun w0 F0 out => ?_
       (repeat' (first | (apply at_regionR 7; refine Stop.out ?_) | refine Zcr ?_ | (apply Za9; (apply Zc4; exact WT_lookv0 (k := (i : Int)) (j := 0) rfl rfl rfl hlk rfl rfl ⟨_, rfl⟩ trivial); exact rfl) | (apply Zaj; exact rfl; apply g_mapup; refine Zbc (κ := Int) (k := (i : Int)) (j := 0) (.inl rfl) rfl rfl rfl rfl rfl rfl ⟨_, rfl⟩ ?_) | refine Za8 ?_ | refine Za1 ?_ | refine Za6 ?_ | (apply Za9; (first | exact Za3 rfl | exact Za4 rfl | (apply Za7; first | exact Zcf rfl rfl | exact Zab (k := 2) rfl rfl rfl rfl | exact Zab (k := 3) rfl rfl (by assumption) rfl) | (apply Zah; exact Zcc rfl rfl) | (apply Zak; exact Zc0 rfl rfl rfl) | (apply Zax; exact Zb3 rfl rfl)); exact rfl) | refine Zaa ?_ | refine Zag ?_ | refine Zb8 rfl ?_ | (refine Zac rfl (fun hb => ?_) (fun hb => ?_) <;> (repeat (first | replace hb := Zam hb | replace hb := Zan hb)) <;> (try (exfalso; omega)))))
       all_goals (try (exfalso; omega))
       refine ⟨?_⟩
       refine WPR_region ?_
       refine WPLR_t (Zcf rfl rfl) rfl ?_
       refine WPLR_t (Za3 rfl) rfl ?_
       refine WPLR_defer [.map (some bm), .int .i64 (i : Int)] rfl ?_
       refine WPR_leads (Zae (env' := [(0, exI .i64 (i : Int)), (1, fpx b4 [ex (.map (some bm))]), (2, ex (.pointer (some ⟨b5, 0, none⟩))), (3, ex (.pointer (some ⟨b2, 0, none⟩))), (4, fp (rulesV kk r)), (5, fpx b7 [clos (.func 89) [fpx b4 [ex (.map (some bm))], ex (.pointer (some ⟨b5, 0, none⟩)), ex (.pointer (some ⟨b2, 0, none⟩)), fp (rulesV kk r), ex (.pointer (some ⟨b7, 0, none⟩)), ex (.pointer (some ⟨b6, 0, none⟩))]]), (6, ex (.pointer (some ⟨b6, 0, none⟩)))]) (loc' := [omap bm (om opn ++ [((i : Int), exB true)]), row b5 4 1 [exB s.circle], row b2 T2 1 [ex (.slice (some ⟨bL, 0, none⟩) r.ties.length c)], row bL 33 tot (s.l.map (isl eKey)), row b6 4 1 [exB s.long]]) (by repeat (first | exact Zai | refine Zad rfl ?_)) ?_) ?_
       · rw [← mput_om opn i ho]
         exact List.Sublist.refl _
       refine WPR_of ?_
       obtain ⟨A, hA0, hAs, hAn, hAok⟩ : ∃ A : Nat → List KeyD × XS, A 0 = ([], s) ∧ (∀ (q : Nat) (h : q < r.ties[i].keys.length), A (q + 1) = expStep G (A q) r.ties[i].keys[q]) ∧ A r.ties[i].keys.length = r.ties[i].keys.foldl (expStep G) ([], s) ∧ ∀ q, (A q).2.ok r.ties.length ∧ (A q).1.length ≤ 33 * 32 := ⟨fun q => (r.ties[i].keys.take q).foldl (expStep G) ([], s), rfl, fun q h => foldl_take h, by simp, fun q => by
         have h1 := fold_ok (n := r.ties.length) hGok (r.ties[i].keys.take q) ([], s) hs
         refine ⟨h1.1, Nat.le_trans h1.2 ?_⟩
         have h2 : (r.ties[i].keys.take q).length ≤ 32 := by rw [List.length_take]; omega
         simp only [List.length_nil]
         omega⟩
       rw [← hAn]
       clear hAn
       (repeat' (first | refine Za8 ?_ | refine Za1 ?_ | refine Za6 ?_ | (apply Za9; (first | exact Za3 rfl | exact Za4 rfl | (apply Za7; exact Zb1 rfl rfl) | (apply Zat; exact Zay rfl rfl rfl) | (apply Zak; exact Zar rfl rfl rfl) | (apply Zax; exact Zb3 rfl rfl)); exact rfl) | refine Zaa ?_))
       refine Zbv (fun x : Nat × Value => ([(0, exI .i64 (i : Int)), (1, fpx b4 [ex (.map (some bm))]), (2, ex (.pointer (some ⟨b5, 0, none⟩))), (3, ex (.pointer (some ⟨b2, 0, none⟩))), (4, fp (rulesV kk r)), (5, fpx b7 [clos (.func 89) [fpx b4 [ex (.map (some bm))], ex (.pointer (some ⟨b5, 0, none⟩)), ex (.pointer (some ⟨b2, 0, none⟩)), fp (rulesV kk r), ex (.pointer (some ⟨b7, 0, none⟩)), ex (.pointer (some ⟨b6, 0, none⟩))]]), (6, ex (.pointer (some ⟨b6, 0, none⟩))), (9, ex x.2), (36, isl eKey r.ties[i].keys), (37, exI .i64 r.ties[i].keys.length), (38, exI .i64 x.1)], [omap bm (om opn ++ [((i : Int), exB true)]), row b5 4 1 [exB (A x.1).2.circle], row b2 T2 1 [ex (.slice (some ⟨bL, 0, none⟩) r.ties.length c)], row bL 33 tot ((A x.1).2.l.map (isl eKey)), row b6 4 1 [exB (A x.1).2.long], vec x.2 42 3 (A x.1).1.length ((A x.1).1.flatMap keyV)])) (fun x => x.1 ≤ r.ties[i].keys.length) (fun x => r.ties[i].keys.length - x.1) (0, .slice none 0 0) ?_ (Nat.zero_le _) fun x hx => ?_
       · rw [hA0]
         refine Leads_nilv 42 3 ?_
         refine (Leads_perm (List.perm_append_comm (l₁ := [vec (.slice none 0 0) 42 3 0 []]))).trans ?_
         exact Zae (by repeat (first | exact Zai | refine Zad rfl ?_)) (List.Sublist.refl _)
       obtain ⟨q, v⟩ := x
       simp only at hx ⊢
       have hAq := hAok q
       by_cases hlq : q < r.ties[i].keys.length
       · have hstep := hAs q hlq
         rcases hAe : A q with ⟨acc, s1⟩
         rw [hAe] at hstep hAq
         simp only
         simp only at hAq
         unfold expStep at hstep
         by_cases h5 : r.ties[i].keys[q].kind = 5
         · rw [if_pos h5] at hstep
           have hcall := hre2 q hlq h5 s1 hAq.1
           simp only [xsL, om_add] at hcall
           rcases hGe : G r.ties[i].keys[q].n.toNat s1 with ⟨ret, s2⟩
           have hGr := (hGok r.ties[i].keys[q].n.toNat s1 hAq.1).2
           rw [hGe] at hcall hstep hGr
           simp only at hcall hstep hGr
           obtain ⟨hAq1, hAq2⟩ := hAq
           (repeat' (first | (apply Zaj; exact rfl; apply Zcj; refine Zci (k := 6) (l0 := []) rfl rfl (by exact Src_isl rfl) rfl ?_; intro _) | refine Za8 ?_ | refine Za1 ?_ | refine Za6 ?_ | (apply Za9; (first | exact Za3 rfl | exact Za4 rfl | (apply Za7; first | exact Zcf rfl rfl | exact Zab (k := 0) rfl rfl rfl rfl | exact Zb2 rfl rfl) | (apply Zat; exact Zaf rfl rfl rfl) | (apply Zah; first | exact Zau rfl rfl | exact Zcd rfl rfl | exact Zbf rfl rfl) | (apply Zak; exact Zar rfl rfl rfl)); exact rfl) | refine Zaa ?_ | refine Zag ?_ | (apply Zaj; exact rfl; first | (apply Zao; (refine WO_callC (args := [_]) rfl (.keep (.keep (.keep (.keep (.slot 5 rfl (fun _ _ _ h => h.1) (.keep .nil)))))) (.one 1 rfl (.one 1 rfl (.one 1 rfl (.one 1 rfl (.one 1 rfl .nil))))) Tryz.func89 rfl hcall rfl ?_ (hH := hH_feet); rintro _ _ ⟨rfl, rfl⟩)) | (apply Zbi; refine Zba ?_; intro _) | (apply Zav; refine Zal (k := 0) (l0 := []) rfl rfl rfl ?_)) | (refine Zac rfl (fun hb => ?_) (fun hb => ?_) <;> (repeat (first | replace hb := Zam hb | replace hb := Zan hb)) <;> (try (exfalso; omega)))))
           all_goals (try (exfalso; first | contradiction | omega))
           rename_i v2
           refine ⟨(q + 1, v2), by show q + 1 ≤ _; omega, by show r.ties[i].keys.length - (q + 1) < r.ties[i].keys.length - q; omega, ?_⟩
           simp only [hstep, List.length_append, List.flatMap_append]
           exact Zae (by repeat (first | exact Zai | refine Zad rfl ?_)) (.cons_cons _ (.cons_cons _ (.cons_cons _ (.cons_cons _ (.cons_cons _ (.cons _ (.refl _)))))))
         · rw [if_neg h5] at hstep
           obtain ⟨hAq1, hAq2⟩ := hAq
           (repeat' (first | (apply Zaj; exact rfl; apply Zcj; refine Zci (k := 7) (l0 := []) rfl rfl (by exact Src_row (k := 0) (qs := keyV r.ties[i].keys[q]) rfl rfl rfl) rfl ?_; intro _) | refine Za8 ?_ | refine Za1 ?_ | refine Za6 ?_ | (apply Za9; (first | exact Za3 rfl | exact Za4 rfl | (apply Za7; first | exact Zab (k := 0) rfl rfl rfl rfl | exact Zb2 rfl rfl | exact Zb6 (k := 0) rfl rfl rfl) | (apply Zat; exact Zaf rfl rfl rfl) | (apply Zah; first | exact Zau rfl rfl | exact Zcd rfl rfl | exact Zbf rfl rfl) | (apply Zak; exact Zar rfl rfl rfl)); exact rfl) | refine Zaa ?_ | refine Zag ?_ | (apply Zaj; exact rfl; first | (apply Zbi; refine Zba ?_; intro _) | (apply Zav; refine Zal (k := 0) (l0 := []) rfl rfl rfl ?_) | (apply Zcb; (refine Zce rfl rfl ?_); intro _)) | (refine Zac rfl (fun hb => ?_) (fun hb => ?_) <;> (repeat (first | replace hb := Zam hb | replace hb := Zan hb)) <;> (try (exfalso; omega)))))
           all_goals (try (exfalso; first | contradiction | omega))
           rename_i v2
           refine ⟨(q + 1, v2), by show q + 1 ≤ _; omega, by show r.ties[i].keys.length - (q + 1) < r.ties[i].keys.length - q; omega, ?_⟩
           simp only [hstep, List.length_append, List.flatMap_append, List.length_cons, List.length_nil, List.flatMap_cons, List.flatMap_nil, List.append_nil]
           exact Zae (by repeat (first | exact Zai | refine Zad rfl ?_)) (.cons _ (.cons _ (.refl _)))
       · have hk9 : q = r.ties[i].keys.length := by omega
         subst hk9
         rcases hAe : A r.ties[i].keys.length with ⟨acc, s1⟩
         rw [hAe] at hAq
         simp only
         simp only at hAq
         obtain ⟨hAq1, hAq2⟩ := hAq
         have hl2 : s1.l.length = r.ties.length := hAq1.1
         (repeat' (first | (apply Zbh 16; refine Stop.out ?_) | refine Za8 ?_ | refine Za1 ?_ | refine Za6 ?_ | (apply Za9; ((apply Zah; exact Zau rfl rfl)); exact rfl) | refine Zbk ?_ | (refine Zac rfl (fun hb => ?_) (fun hb => ?_) <;> (repeat (first | replace hb := Zam hb | replace hb := Zan hb)) <;> (try (exfalso; omega)))))
         all_goals (try (exfalso; omega))
         refine ⟨Zbn (Leads_fvec (k := 5) (t := 9) (E := eKey) acc rfl rfl rfl rfl (hby := by show _ * 32 ≤ _; omega)) ?_⟩
         by_cases h33 : 32 < acc.length
         · have hed : expDone i (acc, s1) = (acc.take 33, ⟨s1.l.set i (acc.take 33), s1.circle, true⟩) := by simp [expDone, h33]
           rw [hed]
           have hput := putC_set (isl eKey) s1.l i (acc.take 33) (by omega)
           (repeat' (first | (apply Zbh 17; refine Stop.out ?_) | refine Za1 ?_ | refine Za6 ?_ | (apply Za9; (first | exact Za3 rfl | (apply Zah; exact Zcc rfl rfl) | (apply Zax; exact Zb3 rfl rfl)); exact rfl) | (refine Zac rfl (fun hb => ?_) (fun hb => ?_) <;> (repeat (first | replace hb := Zam hb | replace hb := Zan hb)) <;> (try (exfalso; omega)))))
           all_goals (try (exfalso; omega))
           refine ⟨WP_norm ?_⟩
           (refine Zbx 2 rfl ?_)
           all_goals ((apply Za2 0 rfl (by decide +kernel) rfl (by repeat (first | exact np_norm)) Za0; (first | exact Za3 rfl); exact rfl))
           all_goals ((apply Za2 1 rfl (by decide +kernel) rfl (by repeat (first | exact np_norm)) Za0; (first | (apply g_slice; first | exact WT_slch rfl rfl rfl)); exact rfl))
           all_goals ((apply Zap 2; exact (by decide +kernel); exact rfl; exact Za0; exact (fun h => absurd h (by decide)); (apply Zav; refine Zal (k := 4) (l0 := []) rfl rfl rfl ?_)))
           all_goals (first | (apply Zap 3 (by decide +kernel) rfl Za0 (fun _ _ _ => trivial); apply WO_t (H := fun _ => True); (first | exact Za4 rfl); exact rfl))
           all_goals (refine Zb9 (by decide +kernel) ?_)
           refine ⟨rfl, ?_⟩
           (repeat' (first | refine Za8 ?_ | refine Za1 ?_ | refine Za6 ?_ | (apply Za9; (first | exact Za3 rfl | exact Za4 rfl | (apply Za7; exact Zab (k := 2) rfl rfl rfl rfl) | (apply Zak; exact Zc0 rfl rfl rfl)); exact rfl) | refine Zaq ?_ | (apply Zaj; exact rfl; (apply Zav; refine Zal (k := 3) (l0 := []) rfl rfl rfl ?_))))
           all_goals (try (exfalso; omega))
           refine raw_retB (j := 0) (m1 := om opn) (k := (i : Int)) rfl rfl (by rw [mlook_om, if_neg ho]) rfl rfl rfl ⟨_, rfl⟩ ?_
           rw [Nat.zero_add, Nat.mul_one, hput]
           exact ⟨.inr rfl, ret1 rfl (.tmp rfl) (List.Sublist.refl (xsL bm b5 b2 bL b6 T2 tot r.ties.length c opn ⟨s1.l.set i (acc.take 33), s1.circle, true⟩)) ⟨rfl, rfl⟩⟩
         · have hed : expDone i (acc, s1) = (acc, ⟨s1.l.set i acc, s1.circle, s1.long⟩) := by
             have : acc.take 33 = acc := List.take_of_length_le (by omega)
             simp [expDone, h33, this]
           rw [hed]
           (repeat' (first | refine Za8 ?_ | refine Za1 ?_ | refine Za6 ?_ | (apply Za9; (first | exact Za3 rfl | exact Za4 rfl | (apply Za7; exact Zab (k := 2) rfl rfl rfl rfl) | (apply Zah; exact Zcc rfl rfl) | (apply Zak; exact Zc0 rfl rfl rfl) | (apply Zax; exact Zb3 rfl rfl)); exact rfl) | refine Zag ?_ | refine Zaq ?_ | (apply Zaj; exact rfl; (apply Zav; refine Zal (k := 3) (l0 := []) rfl rfl rfl ?_)) | (refine Zac rfl (fun hb => ?_) (fun hb => ?_) <;> (repeat (first | replace hb := Zam hb | replace hb := Zan hb)) <;> (try (exfalso; omega)))))
           all_goals (try (exfalso; omega))
           refine raw_retB (j := 0) (m1 := om opn) (k := (i : Int)) rfl rfl (by rw [mlook_om, if_neg ho]) rfl rfl rfl ⟨_, rfl⟩ ?_
           have hput := putC_set (isl eKey) s1.l i acc (by omega)
           rw [Nat.zero_add, Nat.mul_one, hput]
           exact ⟨.inr rfl, ret1 rfl (.tmp rfl) (List.Sublist.refl (xsL bm b5 b2 bL b6 T2 tot r.ties.length c opn ⟨s1.l.set i acc, s1.circle, s1.long⟩)) ⟨rfl, rfl⟩⟩
end Go.Proofs.YthldagplhklbnaaGreatDoor
namespace Go.Proofs.YthldagplhklbnaaGreatDoor
open Go Go.RowKit Go.Kx Go.Fr
set_option maxHeartbeats 4000000 in
set_option maxRecDepth 100000 in
theorem expansion15_any (kk : Nat) (r : RulesD) (hr : r.linked) : FnC Tryz.prog 40 [agg (rulesV kk r)] [] (fun p loc => p = tup [isl (eSl eKey) (expansionF r.ties).1, exI .i64 (expansionF r.ties).2] ∧ loc = []) := by
 refine Zbe (i := 0) rfl (Zca (i := 4) (p := isl eTie r.ties) rfl Zbl) fun hlen => ?_
 obtain ⟨hlen, hby⟩ := hlen
 simp only [maxLen] at hlen
 have hby : r.ties.length * 40 ≤ 140737488355328 := hby
 have hcl := expand15_any kk r hr
 refine Zb7 Tryz.func40 rfl Tryz.ntmps40 rfl fun w0 F0 out => ?_
 (repeat' (first | (apply Zbh 1; refine Stop.out ?_) | refine Za8 ?_ | refine Za1 ?_ | refine Za6 ?_ | (apply Za9; (exact Za4 rfl); exact rfl) | (apply Zaj; exact rfl; first | (apply Zc9; refine Zbz rfl ?_; intro _) | (apply Zbi; refine Zba ?_; intro _))))
 rename_i b1 b2
 refine ⟨Zbn (Zch (k := 1) (t := 1) rfl rfl) ?_⟩
 (repeat' (first | (apply Zbh 3; refine Stop.out ?_) | (apply Zaj; exact rfl; apply g_mkmap; refine WO_mkmap (κ := Int) ?_; intro _) | refine Za8 ?_ | refine Za1 ?_ | refine Za6 ?_ | (apply Za9; (first | (apply Za7; exact Zb1 rfl rfl) | (apply Zat; exact Zay rfl rfl rfl) | (apply Zax; exact Zb3 rfl rfl)); exact rfl) | (apply Zaj; exact rfl; first | (apply Zbi; refine Zba ?_; intro _) | (apply Zav; first | refine Zal (k := 0) (l0 := []) rfl rfl rfl ?_ | refine Zal (k := 1) (l0 := []) rfl rfl rfl ?_ | refine Zal (k := 2) (l0 := []) rfl rfl rfl ?_ | refine Zal (k := 5) (l0 := []) rfl rfl rfl ?_) | (apply g_make; refine WO_make rfl rfl rfl ?_; intro _))))
 rename_i bm b4 b5 b6 bL
 refine ⟨Zbn (Leads_fpx (k := 3) (t := 4) rfl rfl) ?_⟩
 (repeat' (first | (apply Zbh 5; refine Stop.out ?_) | (apply Za9; (apply g_mkfn; exact WT_mkclos (ps := [_, _, _, _, _, _]) rfl); exact rfl) | refine Za8 ?_ | refine Za1 ?_ | refine Za6 ?_ | (apply Zaj; exact rfl; first | (apply Zbi; refine Zba ?_; intro _) | (apply Zav; refine Zal (k := 0) (l0 := []) rfl rfl rfl ?_))))
 rename_i b7
 refine ⟨Zbn (Leads_fpx (k := 0) (t := 7) rfl rfl) ?_⟩
 obtain ⟨B, hB0, hBs, hBn, hBok⟩ : ∃ B : Nat → XS, B 0 = ⟨List.replicate r.ties.length [], false, false⟩ ∧ (∀ q, q < r.ties.length → B (q + 1) = (expF r.ties (r.ties.length + 1) [] q (B q)).2) ∧ B r.ties.length = expAll r.ties ∧ ∀ q, (B q).ok r.ties.length := by
   have hok0 : XS.ok r.ties.length ⟨List.replicate r.ties.length [], false, false⟩ := ⟨by simp, fun x hx => by rw [List.eq_of_mem_replicate hx]; simp⟩
   refine ⟨fun q => ((List.range r.ties.length).take q).foldl (fun s i => (expF r.ties (r.ties.length + 1) [] i s).2) ⟨List.replicate r.ties.length [], false, false⟩, rfl, fun q h => ?_, ?_, fun q => ?_⟩
   · have h1 : q < (List.range r.ties.length).length := by simpa using h
     show List.foldl _ _ (List.take (q + 1) _) = _
     rw [foldl_take h1, List.getElem_range]
   · unfold expAll
     show List.foldl _ _ (List.take r.ties.length _) = _
     rw [List.take_of_length_le (by simp)]
   · dsimp only
     generalize (List.range r.ties.length).take q = l
     generalize (⟨List.replicate r.ties.length [], false, false⟩ : XS) = s0 at hok0
     induction l generalizing s0 with
     | nil => exact hok0
     | cons a l ih => exact ih _ (expF_ok _ _ _ _ _ hok0).1
 refine Zbn (env' := [(1, fp (rulesV kk r)), (2, ex (.pointer (some ⟨b2, 0, none⟩))), (3, ex (.int .i64 0)), (5, ex (.pointer (some ⟨b5, 0, none⟩))), (6, ex (.pointer (some ⟨b6, 0, none⟩))), (7, fpx b7 [clos (.func 89) [fpx b4 [ex (.map (some bm))], ex (.pointer (some ⟨b5, 0, none⟩)), ex (.pointer (some ⟨b2, 0, none⟩)), fp (rulesV kk r), ex (.pointer (some ⟨b7, 0, none⟩)), ex (.pointer (some ⟨b6, 0, none⟩))]])]) (loc' := xsL bm b5 b2 bL b6 49 r.ties.length r.ties.length r.ties.length [] (B 0)) ?_ ?_
 · rw [hB0]
   refine (Leads_row_im (k := 0) (qs := (List.replicate r.ties.length ([] : List KeyD)).map (isl eKey)) rfl ?_).trans ?_
   · rw [List.map_replicate]
     generalize r.ties.length = n
     induction n with
     | zero => exact .nil
     | succ n ih => exact .cons Im.nil ih
   refine Leads.trans ?_ (Leads_perm (loc := [row bL 33 r.ties.length ((List.replicate r.ties.length ([] : List KeyD)).map (isl eKey)), row b6 4 1 [exB false], row b5 4 1 [exB false], omap bm (om []), row b2 49 1 [ex (.slice (some ⟨bL, 0, none⟩) r.ties.length r.ties.length)]]) ((List.perm_append_comm (l₁ := [_, _]) (l₂ := [_, _, _])).trans (List.Perm.swap _ _ [_, _, _])))
   exact Zae (by repeat (first | exact Zai | refine Zad rfl ?_)) (List.Sublist.refl [row bL 33 r.ties.length ((List.replicate r.ties.length ([] : List KeyD)).map (isl eKey)), row b6 4 1 [exB false], row b5 4 1 [exB false], omap bm (om []), row b2 49 1 [ex (.slice (some ⟨bL, 0, none⟩) r.ties.length r.ties.length)]])
 (repeat' (first | refine Za1 ?_ | refine Za6 ?_ | (apply Za9; (first | exact Za3 rfl | (apply Za7; exact Zb1 rfl rfl) | (apply Zat; exact Zay rfl rfl rfl) | (apply Zax; exact Zb3 rfl rfl)); exact rfl) | refine Zaa ?_))
 refine Zbv (fun q : Nat => ([(1, fp (rulesV kk r)), (2, ex (.pointer (some ⟨b2, 0, none⟩))), (3, ex (.int .i64 0)), (5, ex (.pointer (some ⟨b5, 0, none⟩))), (6, ex (.pointer (some ⟨b6, 0, none⟩))), (7, fpx b7 [clos (.func 89) [fpx b4 [ex (.map (some bm))], ex (.pointer (some ⟨b5, 0, none⟩)), ex (.pointer (some ⟨b2, 0, none⟩)), fp (rulesV kk r), ex (.pointer (some ⟨b7, 0, none⟩)), ex (.pointer (some ⟨b6, 0, none⟩))]]), (17, exI .i64 r.ties.length), (18, exI .i64 q)], xsL bm b5 b2 bL b6 49 r.ties.length r.ties.length r.ties.length [] (B q))) (fun q => q ≤ r.ties.length) (fun q => r.ties.length - q) 0 ?_ (Nat.zero_le _) fun q hq => ?_
 · exact Zae (by repeat (first | exact Zai | refine Zad rfl ?_)) (List.Sublist.refl _)
 by_cases hlt : q < r.ties.length
 · have hcall := hcl b4 bm b5 b2 b7 b6 bL 49 r.ties.length r.ties.length (r.ties.length + 1) [] q (B q) (hBok q) List.nodup_nil (fun x hx => by cases hx) hlt (by simp)
   unfold xsL
   simp only [xsL] at hcall
   (repeat' (first | refine Za8 ?_ | refine Za1 ?_ | refine Za6 ?_ | (apply Za9; (first | exact Za3 rfl | exact Za4 rfl | (apply Za7; exact Zcf rfl rfl) | (apply Zah; first | exact Zau rfl rfl | exact Zbf rfl rfl)); exact rfl) | refine Zaa ?_ | refine Zag ?_ | (apply Zaj; exact rfl; (apply Zao; (refine WO_callC (args := [_]) rfl (.keep (.keep (.keep (.keep (.slot 7 rfl (fun _ _ _ h => h.1) (.keep .nil)))))) (.one 0 rfl (.one 0 rfl (.one 0 rfl (.one 0 rfl (.one 0 rfl .nil))))) Tryz.func89 rfl hcall rfl ?_ (hH := hH_feet); rintro _ _ ⟨rfl, rfl⟩))) | (refine Zac rfl (fun hb => ?_) (fun hb => ?_) <;> (repeat (first | replace hb := Zam hb | replace hb := Zan hb)) <;> (try (exfalso; omega)))))
   all_goals (try (exfalso; first | contradiction | omega))
   refine ⟨q + 1, by omega, by omega, ?_⟩
   rw [hBs q hlt]
   exact Zae (by repeat (first | exact Zai | refine Zad rfl ?_)) (List.Sublist.refl _)
 · have hk9 : q = r.ties.length := by omega
   subst hk9
   have hBo := hBok r.ties.length
   rw [hBn] at hBo ⊢
   clear hB0 hBs hBn hBok hcl
   unfold expansionF
   generalize expAll r.ties = s at *
   obtain ⟨l, circle, long⟩ := s
   unfold xsL
   obtain ⟨hBo1, hBo2⟩ := hBo
   simp only at hBo1 hBo2 ⊢
   cases circle
   · cases long
     · (repeat' (first | (apply Zbh 14; refine Stop.out ?_) | refine Za8 ?_ | refine Za1 ?_ | refine Za6 ?_ | (apply Za9; (first | exact Za4 rfl | (apply Za7; first | exact Zab (k := 1) rfl rfl rfl rfl | exact Zab (k := 4) rfl rfl rfl rfl) | (apply Zah; exact Zau rfl rfl)); exact rfl) | refine Zaa ?_ | refine Zag ?_ | refine Zbk ?_ | refine Zb8 rfl ?_ | (refine Zac rfl (fun hb => ?_) (fun hb => ?_) <;> (repeat (first | replace hb := Zam hb | replace hb := Zan hb)) <;> (try (exfalso; omega)))))
       all_goals (try (exfalso; first | contradiction | omega))
       refine ⟨Zbn (Leads_row_vec (k := 3) (sz := 1) (n := r.ties.length) (c := r.ties.length) rfl (by omega) (by rw [List.length_map]; omega) (by decide) (by simp only [maxLen]; omega) (Leads_fcell (j := 3) (k := 2) (i := 0) (E := eSl eKey) l rfl rfl (flat_slV _).symm hBo1 rfl rfl (hby := by show _ * 24 ≤ _; omega))) ?_⟩
       (repeat' (first | refine Za1 ?_ | refine Za6 ?_ | (apply Za9; (first | exact Za4 rfl | (apply Za7; exact Zab (k := 2) rfl rfl rfl rfl)); exact rfl) | refine Zaq ?_ | (apply Zaj; exact rfl; (apply Zav; refine Zal (k := 2) (l0 := []) rfl rfl rfl ?_))))
       refine ⟨.inr rfl, retw (loc' := []) (ret2 rfl (.cell1 (k := 2) rfl rfl rfl rfl rfl) (.tmp rfl) (List.nil_sublist _) ⟨rfl, rfl⟩) ?_ ⟨rfl, rfl⟩⟩
       exact Im.refl _
     · (repeat' (first | refine Za8 ?_ | refine Za1 ?_ | refine Za6 ?_ | (apply Za9; (first | exact Za4 rfl | (apply Za7; first | exact Zab (k := 1) rfl rfl rfl rfl | exact Zab (k := 4) rfl rfl rfl rfl) | (apply Zah; exact Zau rfl rfl)); exact rfl) | refine Zaa ?_ | refine Zaq ?_ | refine Zbk ?_ | refine Zb4 rfl ?_ | refine Zb8 rfl ?_ | (apply Zaj; exact rfl; (apply Zav; refine Zal (k := 2) (l0 := []) rfl rfl rfl ?_)) | (refine Zac rfl (fun hb => ?_) (fun hb => ?_) <;> (repeat (first | replace hb := Zam hb | replace hb := Zan hb)) <;> (try (exfalso; omega)))))
       all_goals (try (exfalso; first | contradiction | omega))
       refine ⟨.inr rfl, retw (loc' := []) (ret2 rfl (.cell1 (k := 2) rfl rfl rfl rfl rfl) (.tmp rfl) (List.nil_sublist _) ⟨rfl, rfl⟩) ?_ ⟨rfl, rfl⟩⟩
       exact Ims.tup (.cons Im.nil (.cons (Im.refl _) .nil))
   · (repeat' (first | refine Za8 ?_ | refine Za1 ?_ | refine Za6 ?_ | (apply Za9; (first | exact Za4 rfl | (apply Za7; exact Zab (k := 1) rfl rfl rfl rfl) | (apply Zah; exact Zau rfl rfl)); exact rfl) | refine Zaa ?_ | refine Zaq ?_ | refine Zbk ?_ | refine Zb4 rfl ?_ | (apply Zaj; exact rfl; (apply Zav; refine Zal (k := 2) (l0 := []) rfl rfl rfl ?_)) | (refine Zac rfl (fun hb => ?_) (fun hb => ?_) <;> (repeat (first | replace hb := Zam hb | replace hb := Zan hb)) <;> (try (exfalso; omega)))))
     all_goals (try (exfalso; first | contradiction | omega))
     refine ⟨.inr rfl, retw (loc' := []) (ret2 rfl (.cell1 (k := 2) rfl rfl rfl rfl rfl) (.tmp rfl) (List.nil_sublist _) ⟨rfl, rfl⟩) ?_ ⟨rfl, rfl⟩⟩
     exact Ims.tup (.cons Im.nil (.cons (Im.refl _) .nil))
end Go.Proofs.YthldagplhklbnaaGreatDoor
namespace Go.Fr
open Go.RowKit Go.Kx
theorem map_fix {α : Type} {f : α → α} {l : List α} (h : l.map f = l) : ∀ x ∈ l, f x = x := by
 intro x hx
 obtain ⟨i, hi, rfl⟩ := List.mem_iff_getElem.1 hx
 have := congrArg (fun l => l[i]?) h
 simpa [List.getElem?_map, List.getElem?_eq_getElem hi] using this
theorem indexF_top {l : List (List UInt8)} {s : List UInt8} : indexF l s < l.length := by
 unfold indexF
 cases h : l.findIdx? (fun x => decide (x = s)) with
 | none => show (-1 : Int) < _; omega
 | some i => have := (List.findIdx?_eq_some_iff_findIdx_eq.1 h).1; simp; omega
namespace RulesD
structure Sound (r : RulesD) : Prop where
 small : r.large = false
 fix : r.resolved = r
 allOk : r.allOk = true
theorem sound_of {fr : List UInt8 → Bool} {r : RulesD} (h : r.check fr = 0) : r.Sound := by
 unfold check at h
 split at h
 · rename_i h2; exact absurd h h2
 · rename_i h2
   split at h
   · rename_i h3
     unfold resolve at h2 h3
     by_cases h4 : r.large = true
     · rw [if_pos h4] at h2; exact (h2 (by simp)).elim
     · rw [if_neg h4] at h2 h3
       split at h2
       · exact (h2 (by simp)).elim
       · rename_i h5
         rw [if_neg h5] at h3
         split at h2
         · exact (h2 (by simp)).elim
         · rename_i h6
           rw [if_neg h6] at h3
           split at h2
           · exact (h2 (by simp)).elim
           · rename_i h7
             rw [if_neg h7] at h3
             exact ⟨by simpa using h4, h3, by simpa using h7⟩
   · cases h
theorem Sound.linked {r : RulesD} (h : r.Sound) : r.linked := by
 intro t ht
 have hs := h.small
 unfold large at hs
 simp only [Bool.or_eq_false_iff] at hs
 refine ⟨?_, fun k hk h5 => ?_⟩
 · have h1 := List.any_eq_false.1 hs.2.1 t ht
   simpa using h1
 · have h1 : r.tieN t = t := map_fix (congrArg RulesD.ties h.fix) t ht
   have h2 := map_fix (congrArg TieD.keys h1) k hk
   have h3 : k.n = indexF r.n2 k.name := by
     have := (congrArg KeyD.n h2).symm
     rw [this]; show (if k.kind = 1 then _ else if k.kind = 2 then _ else if k.kind = 5 then _ else _) = _
     rw [if_neg (by omega), if_neg (by omega), if_pos h5]
   have h4 := h.allOk
   unfold RulesD.allOk at h4
   rw [Bool.and_eq_true] at h4
   have h6 := List.all_eq_true.1 h4.1 t ht
   have h7 := List.all_eq_true.1 h6 k hk
   unfold keyOk at h7
   rw [if_neg (by omega), if_neg (by omega), if_pos h5] at h7
   have h8 := of_decide_eq_true h7
   have h9 := indexF_top (l := r.n2) (s := k.name)
   have h10 : r.n2.length = r.ties.length := by simp [n2]
   omega
theorem Sound.tieNo {r : RulesD} (h : r.Sound) : ∀ y ∈ r.rounds, -1 ≤ y.tieNo ∧ y.tieNo < r.ties.length := by
 intro y hy
 have h1 : r.roundN y = y := map_fix (congrArg RulesD.rounds h.fix) y hy
 have h2 : y.tieNo = if y.tie = [] then -1 else indexF r.n2 y.tie := (congrArg RoundD.tieNo h1).symm
 have h4 := h.allOk
 unfold RulesD.allOk at h4
 rw [Bool.and_eq_true] at h4
 have h6 := List.all_eq_true.1 h4.2 y hy
 unfold roundOk at h6
 rw [Bool.and_eq_true, Bool.or_eq_true, decide_eq_true_iff, decide_eq_true_iff] at h6
 have h9 := indexF_top (l := r.n2) (s := y.tie)
 have h10 : r.n2.length = r.ties.length := by simp [n2]
 split at h2
 · omega
 · rename_i hne
   rcases h6.2 with h | h
   · exact absurd h hne
   · omega
def lateN (i : Nat) (z : Ex) : Bool := decide (z.kind = 5) && decide ((i : Int) ≤ z.n)
def earlyK (i : Nat) (k : KeyD) : Bool := decide (k.kind ≠ 2) || decide (k.n < i)
def roundBad (l : List (List KeyD)) (i : Nat) (y : RoundD) : Bool := y.score.pre.any (lateN i) || (decide (0 ≤ y.tieNo) && !((l.getD y.tieNo.toNat []).all (earlyK i)))
def roundsBad (l : List (List KeyD)) (i : Nat) : List RoundD → Bool
 | [] => false
 | y :: ys => roundBad l i y || roundsBad l (i + 1) ys
def check15 (fr : List UInt8 → Bool) (r : RulesD) : List (List KeyD) × Int :=
 if r.check fr ≠ 0 then ([], r.check fr) else if !r.fine then ([], 150) else if (expansionF r.ties).2 ≠ 0 then ([], (expansionF r.ties).2)
 else if roundsBad (expansionF r.ties).1 0 r.rounds then ([], 151) else ((expansionF r.ties).1, 0)
def keys15 (fr : List UInt8 → Bool) (r : RulesD) (tie : Int) : List KeyD × Int :=
 if (r.check15 fr).2 ≠ 0 then ([], (r.check15 fr).2) else if tie < -1 ∨ (r.ties.length : Int) ≤ tie then ([], 1) else if tie = -1 then ([], 0) else ((r.check15 fr).1.getD tie.toNat [], 0)
end RulesD
theorem expAll_ok (ties : List TieD) : (expAll ties).ok ties.length := by
 have hok0 : XS.ok ties.length ⟨List.replicate ties.length [], false, false⟩ := ⟨by simp, fun x hx => by rw [List.eq_of_mem_replicate hx]; simp⟩
 unfold expAll
 generalize List.range ties.length = l
 generalize (⟨List.replicate ties.length [], false, false⟩ : XS) = s0 at hok0
 induction l generalizing s0 with
 | nil => exact hok0
 | cons a l ih => exact ih _ (expF_ok _ _ _ _ _ hok0).1
theorem expansionF_len {ties : List TieD} (h : (expansionF ties).2 = 0) : (expansionF ties).1.length = ties.length := by
 unfold expansionF at h ⊢
 split at h
 · cases h
 · split at h
   · cases h
   · rename_i h1 h2
     rw [if_neg h1, if_neg h2]; exact (expAll_ok ties).1
theorem RulesD.check15_len {fr : List UInt8 → Bool} {r : RulesD} (h : (r.check15 fr).2 = 0) : (r.check15 fr).1.length = r.ties.length := by
 unfold RulesD.check15 at h ⊢
 split at h
 · rename_i h1; exact absurd h h1
 · rename_i h1
   rw [if_neg h1]
   split at h
   · cases h
   · rename_i h2
     rw [if_neg h2]
     split at h
     · rename_i h3; exact absurd h h3
     · rename_i h3
       rw [if_neg h3]
       split at h
       · cases h
       · rename_i h4
         rw [if_neg h4]
         exact expansionF_len (by simpa using h3)
end Go.Fr
namespace Go.Fr
open Go.RowKit Go.Kx
theorem at_rloop {C : Cx} {id : Nat} {x c z : Code} {T : Exit → Act → World → Prop} {env : Env} {loc : List Ent} (h : WPR C (.seq (.seq x (.block id (.loop c))) z) T env loc) : WPR C (.seq (.seq x (.block id (.loop c))) z) T env loc := h
theorem WPR_condW {C : Cx} {c : Operand} {x y : Code} {T : Exit → Act → World → Prop} {env : Env} {loc : List Ent} (h : WP C (.cond c x y) (rawP C T) env loc) : WPR C (.cond c x y) T env loc := WPR_of h
theorem at_rblk {C : Cx} {id : Nat} {c z : Code} {T : Exit → Act → World → Prop} {env : Env} {loc : List Ent} (h : WPR C (.seq (.block id c) z) T env loc) : WPR C (.seq (.block id c) z) T env loc := h
end Go.Fr
namespace Go.Proofs.YthldagplhklbnaaGreatDoor
open Go Go.RowKit Go.Kx Go.Fr
theorem Zck {H : Nat → Prop} : ∀ b, H b → ∀ e ∈ [Tab], b ∉ e.foot := fun b _ e he hb => by
 rw [List.mem_singleton.1 he] at hb; cases hb
set_option maxRecDepth 100000 in
theorem check1_any (i : Nat) (q : KeyD) : FnC Tryz.prog 43 [agg (keyV q), fp [exI .i64 (i : Int)]] [] (fun p loc => p = exB (RulesD.earlyK i q) ∧ loc = []) := by
 unfold keyV
 refine Zb7 Tryz.func43 rfl Tryz.ntmps43 rfl fun w0 F0 out => ?_
 (repeat' (first | refine Za8 ?_ | refine Za1 ?_ | refine Za6 ?_ | (apply Za9; (first | exact Za3 rfl | exact Za4 rfl | exact Zas (b := true) rfl (fun _ => rfl) (fun e => by cases e) | exact Zas (b := false) rfl (fun e => by cases e) (fun _ => rfl) | (apply Za7; exact Zab (k := 0) rfl rfl rfl rfl) | (apply Zat; exact Zaf rfl rfl rfl) | (apply Zah; exact Zc3 rfl rfl)); exact rfl) | (refine Zbq rfl rfl rfl rfl rfl ?_) | (apply Zbt; exact rfl; exact rfl; exact rfl; (first | (apply Za7; first | exact Zb1 rfl rfl | exact Zab (k := 0) rfl rfl rfl rfl) | (apply Zat; exact Zaf rfl rfl rfl) | (apply Zah; exact Zau rfl rfl)); exact rfl) | refine Zaq ?_ | (apply Zaj; exact rfl; (apply Zc9; refine Zbz rfl ?_; intro _)) | (refine Zbm rfl rfl (fun hb => ?_) (fun hb => ?_) <;> (repeat (first | replace hb := Zam hb | replace hb := Zan hb | replace hb := Zbr hb | replace hb := Zbs hb)) <;> (try (exfalso; fail)))))
 all_goals (refine ⟨.inr rfl, ret1 rfl (.tmp rfl) (List.nil_sublist _) ⟨congrArg exB ?_, rfl⟩⟩)
 all_goals (unfold RulesD.earlyK; rw [Bool.eq_iff_iff]; simp; try omega)
def lateQ (L : List (List KeyD)) (q b2 b3 : Nat) (pre : List Ex) (y : Ex) : Post := fun e _ loc' => (e = .normal ∧ (loc' = [row b3 31 1 [exI .i64 0], row b2 49 1 [isl (eSl eKey) L]] ∧ ∀ z ∈ pre ++ [y], RulesD.lateN q z = false)) ∨ (e = .ret ∧ (loc' = [row b3 31 1 [exI .i64 151], row b2 49 1 [ex (.slice none 0 0)]] ∧ ∃ z ∈ pre ++ [y], RulesD.lateN q z = true))
theorem lateQ_ret {C : Cx} {L : List (List KeyD)} {q b2 b3 : Nat} {pre : List Ex} {y : Ex} {env : Env} {loc : List Ent} (hn : RulesD.lateN q y = true) (hs : [row b3 31 1 [exI .i64 151], row b2 49 1 [ex (.slice none 0 0)]].Sublist loc) : loose C (lateQ L q b2 b3 pre y) .ret env loc := ⟨env, _, Zae (fun _ _ h => h) hs, .inr ⟨rfl, rfl, y, by simp, hn⟩⟩
theorem lateQ_nor {C : Cx} {L : List (List KeyD)} {q b2 b3 : Nat} {pre : List Ex} {y : Ex} {env : Env} {loc : List Ent} (hS : ∀ y ∈ pre, RulesD.lateN q y = false) (hn : RulesD.lateN q y = false) (hs : [row b3 31 1 [exI .i64 0], row b2 49 1 [isl (eSl eKey) L]].Sublist loc) : loose C (lateQ L q b2 b3 pre y) .normal env loc := ⟨env, _, Zae (fun _ _ h => h) hs, .inl ⟨rfl, rfl, fun z hz => by
   rcases List.mem_append.1 hz with h | h
   · exact hS z h
   · rw [List.mem_singleton.1 h]; exact hn⟩⟩
set_option maxHeartbeats 4000000 in
set_option maxRecDepth 100000 in
theorem check15_any (kk : Nat) (r : RulesD) (hf : r.few = true) : FnC Tryz.prog 18 [agg (rulesV kk r)] [Tab] (fun p loc => p = tup [isl (eSl eKey) (r.check15 freeF).1, exI .i64 (r.check15 freeF).2] ∧ loc = []) := by
 refine Zbe (i := 0) rfl (Zca (i := 5) (p := isl (eRound kk) r.rounds) rfl Zbl) fun hlen => ?_
 obtain ⟨hlen, -⟩ := hlen
 have hnc := ncheck_any kk r hf
 unfold rul at hnc
 unfold RulesD.check15
 have hso : r.check freeF = 0 → r.Sound := RulesD.sound_of
 generalize r.check freeF = e at *
 by_cases he : e = 0
 · subst he
   have hs := hso rfl
   have hex := expansion15_any kk r hs.linked
   clear hso
   simp only [ne_eq, not_true_eq_false, if_false]
   cases hfi : r.fine
   · simp only [Bool.not_false, if_true]
     refine FnC_enterM Tryz.func18 rfl Tryz.ntmps18 rfl fun w0 F0 out => ?_
     (repeat' (first | (apply Zbh 1; refine Stop.out ?_) | refine Zcr ?_ | refine Za8 ?_ | refine Za1 ?_ | refine Za6 ?_ | (apply Zaj; exact rfl; first | (apply Zc9; refine Zbz rfl ?_; intro _) | (apply Zbi; refine Zba ?_; intro _))))
     rename_i b1 b2 b3
     refine ⟨Zbn (Zch (k := 2) (t := 1) rfl rfl) ?_⟩
     have hfr := formed_any kk r
     rw [hfi] at hfr
     (repeat' (first | refine Zcr ?_ | refine Za8 ?_ | refine Za1 ?_ | refine Za6 ?_ | (apply Za9; (first | (apply Za7; first | exact Zab (k := 0) rfl rfl rfl rfl | exact Zb2 rfl rfl) | (apply Zah; exact Zc3 rfl rfl) | (apply g_un; exact Zbg rfl)); exact rfl) | refine Zag ?_ | refine Zaq ?_ | refine Zb4 rfl ?_ | refine Zb8 rfl ?_ | (apply Zaj; exact rfl; first | (apply Zao; first | (refine Zby (.dup 2 rfl rfl .nil) Tryz.func13 rfl hnc rfl ?_ (hH := Zck); rintro _ _ ⟨rfl, rfl⟩) | (refine Zaw Tryz.func39 rfl hfr rfl ?_; rintro _ _ ⟨rfl, rfl⟩)) | (apply Zav; first | refine Zal (k := 0) (l0 := []) rfl rfl rfl ?_ | refine Zal (k := 1) (l0 := []) rfl rfl rfl ?_))))
     refine raw_ret rfl ⟨.inr rfl, retw (loc' := []) (ret2 rfl (.cell1 (k := 1) rfl rfl rfl rfl rfl) (.cell1 (k := 0) rfl rfl rfl rfl rfl) (List.nil_sublist _) ⟨rfl, rfl⟩) ?_ ⟨rfl, rfl⟩⟩
     exact Ims.tup (.cons Im.nil (.cons (Im.refl _) .nil))
   · simp only [Bool.not_true, Bool.false_eq_true, if_false]
     have hfr := formed_any kk r
     rw [hfi] at hfr
     generalize hx : expansionF r.ties = z at *
     obtain ⟨L, e⟩ := z
     simp only at hex ⊢
     by_cases he : e = 0
     · subst he
       have hLl : L.length = r.ties.length := by have := @expansionF_len r.ties (by rw [hx]); rw [hx] at this; exact this
       simp only [not_true_eq_false, if_false]
       refine FnC_enterM Tryz.func18 rfl Tryz.ntmps18 rfl fun w0 F0 out => ?_
       (repeat' (first | (apply Zbh 1; refine Stop.out ?_) | refine Zcr ?_ | refine Za8 ?_ | refine Za1 ?_ | refine Za6 ?_ | (apply Zaj; exact rfl; first | (apply Zc9; refine Zbz rfl ?_; intro _) | (apply Zbi; refine Zba ?_; intro _))))
       rename_i b1 b2 b3
       refine ⟨Zbn (Zch (k := 2) (t := 1) rfl rfl) ?_⟩
       (repeat' (first | (apply at_rloop; refine Stop.out ?_) | refine Zcr ?_ | refine Za8 ?_ | refine Za1 ?_ | refine Za6 ?_ | (apply Za9; (first | exact Za3 rfl | exact Zb5 rfl rfl | (apply Za7; first | exact Zab (k := 0) rfl rfl rfl rfl | exact Zb2 rfl rfl) | (apply Zah; exact Zc3 rfl rfl) | (apply g_un; exact Zbg rfl)); exact rfl) | refine Zag ?_ | refine Zb8 rfl ?_ | (apply Zaj; exact rfl; first | (apply Zao; first | (refine Zby (.dup 2 rfl rfl .nil) Tryz.func13 rfl hnc rfl ?_ (hH := Zck); rintro _ _ ⟨rfl, rfl⟩) | (refine Zaw Tryz.func40 rfl hex rfl ?_; rintro _ _ ⟨rfl, rfl⟩) | (refine Zaw Tryz.func39 rfl hfr rfl ?_; rintro _ _ ⟨rfl, rfl⟩)) | (apply Zav; first | refine Zal (k := 0) (l0 := []) rfl rfl rfl ?_ | refine Zal (k := 1) (l0 := []) rfl rfl rfl ?_))))
       refine ⟨?_⟩
       refine WPR_leads (Zae (env' := [(1, fp (rulesV kk r)), (2, ex (.pointer (some ⟨b2, 0, none⟩))), (3, ex (.pointer (some ⟨b3, 0, none⟩)))]) (loc' := [row b3 31 1 [exI .i64 0], row b2 49 1 [isl (eSl eKey) L], Tab]) (by repeat (first | exact Zai | refine Zad rfl ?_)) (List.Sublist.refl _)) ?_
       clear hfr hfi hex hnc
       simp only [maxLen] at hlen
       refine WPR_seqR (Zcr ?_)
       (repeat' (first | refine Za1 ?_ | refine Za6 ?_ | (apply Za9; (first | exact Za3 rfl | (apply Za7; exact Zb1 rfl rfl) | (apply Zat; exact Zay rfl rfl rfl) | (apply Zax; exact Zb3 rfl rfl)); exact rfl)))
       refine WPR_blk ?_
       refine WPR_loopM (C0 := ⟨Tryz.prog, w0, F0, footX [Tab], out, 59, []⟩) (Ds0 := []) (fun q : Nat => ([(1, fp (rulesV kk r)), (2, ex (.pointer (some ⟨b2, 0, none⟩))), (3, ex (.pointer (some ⟨b3, 0, none⟩))), (24, isl (eRound kk) r.rounds), (25, exI .i64 r.rounds.length), (26, exI .i64 q)], [row b3 31 1 [exI .i64 0], row b2 49 1 [isl (eSl eKey) L], Tab])) (fun q => q ≤ r.rounds.length ∧ RulesD.roundsBad L 0 r.rounds = RulesD.roundsBad L q (r.rounds.drop q)) (fun q => r.rounds.length - q) 0 (fun D hD => by cases hD) ?_ ⟨Nat.zero_le _, rfl⟩ fun Ds q hDs hq => ?_
       · exact Zae (by repeat (first | exact Zai | refine Zad rfl ?_)) (List.Sublist.refl _)
       obtain ⟨hq, hbad⟩ := hq
       rw [hbad]
       obtain ⟨o1, d1, hC⟩ := marks_lit Tryz.prog w0 F0 (footX [Tab]) out 59 [] Ds
       rw [hC]
       by_cases hlt : q < r.rounds.length
       · have hdrop : r.rounds.drop q = r.rounds[q] :: r.rounds.drop (q + 1) := List.drop_eq_getElem_cons hlt
         rw [hdrop, RulesD.roundsBad]
         (repeat' (first | (apply at_rblk; refine Stop.out ?_) | refine Zcr ?_ | refine Za1 ?_ | refine Za6 ?_ | (apply Za9; ((apply Zah; exact Zau rfl rfl)); exact rfl) | refine Zag ?_ | (refine Zac rfl (fun hb => ?_) (fun hb => ?_) <;> (repeat (first | replace hb := Zam hb | replace hb := Zan hb)) <;> (try (exfalso; omega)))))
         all_goals (try (exfalso; omega))
         refine ⟨WPR_seqR (WPR_blk ?_)⟩
         have hparts := parts15_any kk r.rounds[q].score
         (repeat' (first | (apply Zbh 12; refine Stop.out ?_) | refine WPR_deep ?_ | refine Zcr ?_ | refine Za1 ?_ | refine Za6 ?_ | (apply Za9; (first | exact Za3 rfl | (apply Za7; exact Zb2 rfl rfl) | (apply Zak; exact Zar rfl rfl rfl)); exact rfl) | (apply Zaj; exact rfl; first | (apply Zbi; refine Zba ?_; intro _) | (apply Zav; first | refine Zal (k := 0) (l0 := []) rfl rfl rfl ?_ | refine Zal (k := 1) (l0 := []) rfl rfl rfl ?_))))
         rename_i b4 b5
         refine ⟨Zbn (Zch (k := 0) (t := 5) rfl rfl) (Zbn (Zch (k := 0) (t := 4) rfl rfl) ?_)⟩
         (repeat' (first | (apply at_range; refine Stop.out ?_) | refine Za1 ?_ | refine Za6 ?_ | (apply Za9; (first | (apply Za7; exact WT_loadfa2 rfl rfl) | (apply Zat; exact Zay rfl rfl rfl)); exact rfl) | (apply Zaj; exact rfl; (apply Zao; (refine Zaw Tryz.func41 rfl hparts rfl ?_; rintro _ _ ⟨⟨j, hj, rfl⟩, rfl⟩)))))
         refine ⟨?_⟩
         subst hj
         refine WPR_leads (Zae (env' := [(1, fp (rulesV (j + 1) r)), (2, ex (.pointer (some ⟨b2, 0, none⟩))), (3, ex (.pointer (some ⟨b3, 0, none⟩))), (24, isl (eRound (j + 1)) r.rounds), (25, exI .i64 r.rounds.length), (26, exI .i64 q), (4, fp [exI .i64 (q : Int)]), (5, fp (roundV (j + 1) r.rounds[q])), (33, clo 90 [fp (exV (j + 1) r.rounds[q].score)])]) (loc' := [row b3 31 1 [exI .i64 0], row b2 49 1 [isl (eSl eKey) L], Tab]) (by repeat (first | exact Zai | refine Zad rfl ?_)) (List.Sublist.refl _)) ?_
         refine WPR_rangeS (α := Ex) (gf := 90) (fng := Tryz.f90) (lb := [fp (exV (j + 1) r.rounds[q].score)]) (encs := fun y => [agg (exV (j + 1) y)]) (bl := [row b3 31 1 [exI .i64 0], row b2 49 1 [isl (eSl eKey) L]]) (l2 := [Tab]) r.rounds[q].score.pre (fun pre loc => loc = [row b3 31 1 [exI .i64 0], row b2 49 1 [isl (eSl eKey) L]] ∧ ∀ z ∈ pre, RulesD.lateN q z = false) (fun pre loc => loc = [row b3 31 1 [exI .i64 151], row b2 49 1 [ex (.slice none 0 0)]] ∧ ∃ z ∈ pre, RulesD.lateN q z = true) (fun y e => (6, fp (exV (j + 1) y)) :: e) rfl Tryz.func90 rfl rfl (parts1_gen j r.rounds[q].score) (fun _ => rfl) (fun t ht => by simp at ht; subst ht; rfl) ⟨rfl, fun y hy => by cases hy⟩ ?_ ?_ ?_ ?_
         · intro Cb l m pre y inn hP hN hpre hS
           obtain ⟨P1, w1, F1, X1, out1, N1, d2⟩ := Cb
           dsimp only at hP hN
           subst hP hN
           obtain ⟨rfl, hS⟩ := hS
           refine WPC_loose ?_
           (repeat' (first | refine WPC_region ?_ | refine WPI_nil ?_ | (apply WPI_opu; exact rfl; exact rfl; first | (apply Zbi; refine Zba ?_; intro _) | (apply Zav; refine Zal (k := 0) (l0 := []) rfl rfl rfl ?_))))
           exact ⟨_, _, (Zch (k := 0) (t := 6) rfl rfl).trans (Zae (by repeat (first | exact Zai | refine Zad rfl ?_)) (List.Sublist.refl _)), rfl, rfl, rfl⟩
         · intro Cb l m pre y inn hP hN hpre hS
           obtain ⟨P1, w1, F1, X1, out1, N1, d2⟩ := Cb
           dsimp only at hP hN
           subst hP hN
           obtain ⟨rfl, hS⟩ := hS
           change WPC _ _ _ _ (lateQ L q b2 b3 pre y) _ _
           refine WPC_loose ?_
           (repeat' (first | refine WPC_seq ?_ | refine WPC_region ?_ | refine WPI_nil ?_ | (apply WPI_u; exact rfl; (first | exact Za3 rfl | exact Zas (b := true) rfl (fun _ => rfl) (fun e => by cases e) | exact Zas (b := false) rfl (fun e => by cases e) (fun _ => rfl) | (apply Za7; exact Zb1 rfl rfl) | (apply Zat; exact Zay rfl rfl rfl) | (apply Zah; exact Zcd rfl rfl)); exact rfl) | (refine WPI_off rfl rfl rfl rfl rfl ?_) | (apply WPI_gu; exact rfl; exact rfl; exact rfl; exact rfl; (first | (apply Za7; exact Zb1 rfl rfl) | (apply Zat; exact Zay rfl rfl rfl) | (apply Zah; exact Zcp rfl rfl)); exact rfl) | refine WPC_blk ?_ | refine WPC_skip ?_ | refine WPC_ret ?_ | refine WPC_cond_f rfl ?_ | (apply WPI_opu; exact rfl; exact rfl; (apply Zav; first | refine Zal (k := 0) (l0 := []) rfl rfl rfl ?_ | refine Zal (k := 1) (l0 := []) rfl rfl rfl ?_)) | (refine WPI_case rfl rfl (fun hb => ?_) (fun hb => ?_) <;> (repeat (first | replace hb := Zam hb | replace hb := Zan hb)) <;> (try (exfalso; fail))) | (refine WPC_cond rfl (fun hb => ?_) (fun hb => ?_) <;> (repeat (first | replace hb := Zam hb | replace hb := Zan hb)) <;> (try (exfalso; fail)))))
           all_goals (first | refine lateQ_ret ?_ (List.Sublist.refl _) | refine lateQ_nor hS ?_ (List.Sublist.refl _))
           all_goals (unfold RulesD.lateN; rw [Bool.eq_iff_iff]; simp only [Bool.and_eq_true, decide_eq_true_eq, Bool.false_eq_true, iff_true, iff_false]; omega)
         · intro D bl' hD hS
           obtain ⟨rfl, hS⟩ := hS
           refine raw_next rfl ?_
           have hlate : r.rounds[q].score.pre.any (RulesD.lateN q) = false := by rw [List.any_eq_false]; intro z hz; simp [hS z hz]
           have hti := hs.tieNo _ (List.getElem_mem hlt)
           by_cases h0 : 0 ≤ r.rounds[q].tieNo
           · haveI : Nt r.rounds[q].tieNo r.rounds[q].tieNo.toNat := ⟨by omega⟩
             have htl : r.rounds[q].tieNo.toNat < L.length := by omega
             have hgd : L.getD r.rounds[q].tieNo.toNat [] = L[r.rounds[q].tieNo.toNat] := by rw [List.getD_eq_getElem?_getD, List.getElem?_eq_getElem htl]; rfl
             have hall := allKey_any L[r.rounds[q].tieNo.toNat] (RulesD.earlyK q) 43 Tryz.f43 _ Tryz.func43 rfl rfl [fp [exI .i64 (q : Int)]] (fun x _ => check1_any q x)
             cases hac : L[r.rounds[q].tieNo.toNat].all (RulesD.earlyK q)
             · rw [hac] at hall
               have hlate2 : RulesD.roundBad L q r.rounds[q] = true := by
                 unfold RulesD.roundBad
                 rw [hlate, hgd, hac]; simp [h0]
               simp only [hlate2, Bool.true_or, if_true]
               (repeat' (first | refine Zcr ?_ | refine WPR_condW ?_ | (apply Zbt; exact rfl; exact rfl; exact rfl; (apply g_mkfn; exact WT_mkclos (ps := [_]) rfl); exact rfl) | refine Za8 ?_ | refine Za1 ?_ | refine Za6 ?_ | (apply Za9; (first | exact Za3 rfl | exact Zas (b := true) rfl (fun _ => rfl) (fun e => by cases e) | (apply Za7; exact Zb1 rfl rfl) | (apply Zat; exact Zay rfl rfl rfl) | (apply Zah; exact Zcp rfl rfl)); exact rfl) | (apply Zbt; exact rfl; exact rfl; exact rfl; (first | (apply Za7; first | exact Zb1 rfl rfl | exact Zab (k := 1) rfl rfl rfl rfl) | (apply Zat; exact Zay rfl rfl rfl) | (apply Zak; exact Zar rfl rfl rfl) | (apply g_un; exact Zbg rfl)); exact rfl) | refine Zaq ?_ | refine Zb4 rfl ?_ | (apply Zaj; exact rfl; (apply Zav; first | refine Zal (k := 0) (l0 := []) rfl rfl rfl ?_ | refine Zal (k := 1) (l0 := []) rfl rfl rfl ?_)) | (apply Zc8; exact rfl; exact rfl; exact rfl; exact rfl; (apply Zao; (refine Zaw Tryz.func42 rfl hall rfl ?_; rintro _ _ ⟨rfl, rfl⟩))) | (refine Zbm rfl rfl (fun hb => ?_) (fun hb => ?_) <;> (repeat (first | replace hb := Zam hb | replace hb := Zan hb)) <;> (try (exfalso; omega)))))
               all_goals (try (exfalso; omega))
               refine raw_pastB (raw_past (raw_roundP (by simp) (raw_pastB (raw_past ?_))))
               refine raw_retC (Ds := D :: Ds) (congrArg (fun C : Cx => C.mark D) hC) rfl (fun D' hD' => (List.mem_cons.1 hD').elim (fun e => e ▸ hD) (hDs D')) ?_
               refine ⟨.inr rfl, retw (loc' := []) (ret2 rfl (.cell1 (k := 1) rfl rfl rfl rfl rfl) (.cell1 (k := 0) rfl rfl rfl rfl rfl) (List.nil_sublist _) ⟨rfl, rfl⟩) ?_ ⟨rfl, rfl⟩⟩
               exact Ims.tup (.cons Im.nil (.cons (Im.refl _) .nil))
             · rw [hac] at hall
               have hlate2 : RulesD.roundBad L q r.rounds[q] = false := by
                 unfold RulesD.roundBad
                 rw [hlate, hgd, hac]; simp
               simp only [hlate2, Bool.false_or]
               (repeat' (first | refine Zcr ?_ | refine WPR_condW ?_ | (apply Zbt; exact rfl; exact rfl; exact rfl; (apply g_mkfn; exact WT_mkclos (ps := [_]) rfl); exact rfl) | refine Za1 ?_ | refine Za6 ?_ | (apply Za9; (first | exact Za3 rfl | exact Zas (b := true) rfl (fun _ => rfl) (fun e => by cases e) | (apply Za7; exact Zb1 rfl rfl) | (apply Zat; exact Zay rfl rfl rfl) | (apply Zah; exact Zcp rfl rfl)); exact rfl) | (apply Zbt; exact rfl; exact rfl; exact rfl; (first | (apply Za7; first | exact Zb1 rfl rfl | exact Zab (k := 1) rfl rfl rfl rfl) | (apply Zat; exact Zay rfl rfl rfl) | (apply Zak; exact Zar rfl rfl rfl) | (apply g_un; exact Zbg rfl)); exact rfl) | refine Zag ?_ | refine Zb8 rfl ?_ | (apply Zc8; exact rfl; exact rfl; exact rfl; exact rfl; (apply Zao; (refine Zaw Tryz.func42 rfl hall rfl ?_; rintro _ _ ⟨rfl, rfl⟩))) | (refine Zbm rfl rfl (fun hb => ?_) (fun hb => ?_) <;> (repeat (first | replace hb := Zam hb | replace hb := Zan hb)) <;> (try (exfalso; omega)))))
               all_goals (try (exfalso; omega))
               refine raw_inB (raw_next rfl (WPR_of ?_))
               (repeat' (first | refine Za1 ?_ | refine Za6 ?_ | (apply Za9; (first | exact Za3 rfl | (apply Zah; first | exact Zbf rfl rfl)); exact rfl)))
               refine raw_roundC (Ds := D :: Ds) (congrArg (fun C : Cx => C.mark D) hC) (q + 1) (fun D' hD' => (List.mem_cons.1 hD').elim (fun e => e ▸ hD) (hDs D')) ⟨by omega, by first | rfl | simp [hlate2]⟩ (by show r.rounds.length - (q + 1) < r.rounds.length - q; omega) ?_
               exact Zae (by repeat (first | exact Zai | refine Zad rfl ?_)) (List.Sublist.refl _)
           · have hlate2 : RulesD.roundBad L q r.rounds[q] = false := by
               unfold RulesD.roundBad
               rw [hlate]; simp [h0]
             simp only [hlate2, Bool.false_or]
             (repeat' (first | refine Zcr ?_ | refine WPR_condW ?_ | refine Za1 ?_ | refine Za6 ?_ | (apply Za9; (first | exact Za3 rfl | exact Zas (b := false) rfl (fun e => by cases e) (fun _ => rfl) | (apply Za7; exact Zb1 rfl rfl) | (apply Zat; exact Zay rfl rfl rfl) | (apply Zah; exact Zcp rfl rfl)); exact rfl) | (refine Zbq rfl rfl rfl rfl rfl ?_) | refine Zag ?_ | refine Zb8 rfl ?_ | (refine Zbm rfl rfl (fun hb => ?_) (fun hb => ?_) <;> (repeat (first | replace hb := Zam hb | replace hb := Zan hb)) <;> (try (exfalso; omega)))))
             all_goals (try (exfalso; omega))
             refine raw_inB (raw_next rfl (WPR_of ?_))
             (repeat' (first | refine Za1 ?_ | refine Za6 ?_ | (apply Za9; (first | exact Za3 rfl | (apply Zah; first | exact Zbf rfl rfl)); exact rfl)))
             refine raw_roundC (Ds := D :: Ds) (congrArg (fun C : Cx => C.mark D) hC) (q + 1) (fun D' hD' => (List.mem_cons.1 hD').elim (fun e => e ▸ hD) (hDs D')) ⟨by omega, by first | rfl | simp [hlate2]⟩ (by show r.rounds.length - (q + 1) < r.rounds.length - q; omega) ?_
             exact Zae (by repeat (first | exact Zai | refine Zad rfl ?_)) (List.Sublist.refl _)
         · intro D pre bl' hD hpre hS
           obtain ⟨rfl, z, hz, hn⟩ := hS
           have hlate : RulesD.roundBad L q r.rounds[q] = true := by
             unfold RulesD.roundBad
             rw [List.any_eq_true.2 ⟨z, hpre.subset hz, hn⟩]; rfl
           simp only [hlate, Bool.true_or, if_true]
           refine raw_past (raw_pastB (raw_past (raw_roundP (by simp) (raw_pastB (raw_past ?_)))))
           refine raw_retC (Ds := D :: Ds) (congrArg (fun C : Cx => C.mark D) hC) rfl (fun D' hD' => (List.mem_cons.1 hD').elim (fun e => e ▸ hD) (hDs D')) ?_
           refine ⟨.inr rfl, retw (loc' := []) (ret2 rfl (.cell1 (k := 1) rfl rfl rfl rfl rfl) (.cell1 (k := 0) rfl rfl rfl rfl rfl) (List.nil_sublist _) ⟨rfl, rfl⟩) ?_ ⟨rfl, rfl⟩⟩
           exact Ims.tup (.cons Im.nil (.cons (Im.refl _) .nil))
       · have hk9 : q = r.rounds.length := by omega
         subst hk9
         rw [List.drop_length, RulesD.roundsBad]
         (repeat' (first | refine Zcr ?_ | refine Za1 ?_ | refine Za6 ?_ | (apply Za9; ((apply Zah; exact Zau rfl rfl)); exact rfl) | refine Zbk ?_ | (refine Zac rfl (fun hb => ?_) (fun hb => ?_) <;> (repeat (first | replace hb := Zam hb | replace hb := Zan hb)) <;> (try (exfalso; omega)))))
         all_goals (try (exfalso; omega))
         refine raw_roundP (by simp) (raw_exitB (raw_next rfl ?_))
         (repeat' (first | refine Zcr ?_ | refine WPR_ret ?_ | refine Za1 ?_ | refine Za6 ?_ | (apply Za9; ((apply Za7; exact Zab (k := 1) rfl rfl rfl rfl)); exact rfl) | (apply Zaj; exact rfl; (apply Zav; first | refine Zal (k := 0) (l0 := []) rfl rfl rfl ?_ | refine Zal (k := 1) (l0 := []) rfl rfl rfl ?_))))
         refine raw_retC hC rfl hDs ?_
         refine ⟨.inr rfl, retw (loc' := []) (ret2 rfl (.cell1 (k := 1) rfl rfl rfl rfl rfl) (.cell1 (k := 0) rfl rfl rfl rfl rfl) (List.nil_sublist _) ⟨rfl, rfl⟩) ?_ ⟨rfl, rfl⟩⟩
         exact Im.refl _
     · rw [if_pos he]
       refine FnC_enterM Tryz.func18 rfl Tryz.ntmps18 rfl fun w0 F0 out => ?_
       (repeat' (first | (apply Zbh 1; refine Stop.out ?_) | refine Zcr ?_ | refine Za8 ?_ | refine Za1 ?_ | refine Za6 ?_ | (apply Zaj; exact rfl; first | (apply Zc9; refine Zbz rfl ?_; intro _) | (apply Zbi; refine Zba ?_; intro _))))
       rename_i b1 b2 b3
       refine ⟨Zbn (Zch (k := 2) (t := 1) rfl rfl) ?_⟩
       (repeat' (first | (apply Zbh 8; refine Stop.out ?_) | refine Zcr ?_ | refine Za8 ?_ | refine Za1 ?_ | refine Za6 ?_ | (apply Za9; (first | exact Za3 rfl | exact Zb5 rfl rfl | (apply Za7; first | exact Zab (k := 0) rfl rfl rfl rfl | exact Zb2 rfl rfl) | (apply Zah; exact Zc3 rfl rfl) | (apply g_un; exact Zbg rfl)); exact rfl) | refine Zag ?_ | refine Zb8 rfl ?_ | (apply Zaj; exact rfl; first | (apply Zao; first | (refine Zby (.dup 2 rfl rfl .nil) Tryz.func13 rfl hnc rfl ?_ (hH := Zck); rintro _ _ ⟨rfl, rfl⟩) | (refine Zaw Tryz.func40 rfl hex rfl ?_; rintro _ _ ⟨rfl, rfl⟩) | (refine Zaw Tryz.func39 rfl hfr rfl ?_; rintro _ _ ⟨rfl, rfl⟩)) | (apply Zav; first | refine Zal (k := 0) (l0 := []) rfl rfl rfl ?_ | refine Zal (k := 1) (l0 := []) rfl rfl rfl ?_)) | (refine Zac rfl (fun hb => ?_) (fun hb => ?_) <;> (repeat (first | replace hb := Zam hb | replace hb := Zan hb | replace hb := Zbr hb | replace hb := Zbs hb)) <;> (try (exfalso; omega)))))
       refine ⟨WP_norm ?_⟩
       (refine Zbx 1 rfl ?_)
       all_goals (refine Zcg (H2 := feet []) 0 1 (by decide +kernel) rfl Za0 (fun _ _ _ => trivial) rfl Za0 (fun h => absurd h (by decide)) ?_ ?_; (apply WO_t (H := fun _ => True); ((apply Za7; exact Zab (k := 0) rfl rfl rfl rfl)); exact rfl); (apply Zap 1; exact (by decide +kernel); exact rfl; exact Za0; exact (fun h => absurd h (by decide)); ((apply Zav; refine Zal (k := 1) (l0 := []) rfl rfl rfl ?_))); rotate_left; ((apply Zav; refine Zal (k := 1) (l0 := []) rfl rfl rfl ?_)); (apply Zap 0; exact (by decide +kernel); exact rfl; exact Za0; exact (fun _ _ _ => trivial); (apply WO_t (H := fun _ => True); ((apply Za7; exact Zab (k := 0) rfl rfl rfl rfl)); exact rfl)))
       all_goals ((apply Zap 2; exact (by decide +kernel); exact rfl; exact Za0; exact (fun h => absurd h (by decide)); (apply Zav; refine Zal (k := 0) (l0 := []) rfl rfl rfl ?_)))
       all_goals (refine Zb9 (by decide +kernel) ?_)
       all_goals refine ⟨rfl, ?_⟩
       all_goals ((repeat' (first | refine Zaq ?_)))
       all_goals (refine raw_ret rfl ⟨.inr rfl, retw (loc' := []) (ret2 rfl (.cell1 (k := 1) rfl rfl rfl rfl rfl) (.cell1 (k := 0) rfl rfl rfl rfl rfl) (List.nil_sublist _) ⟨rfl, rfl⟩) ?_ ⟨rfl, rfl⟩⟩)
       all_goals exact Ims.tup (.cons Im.nil (.cons (Im.refl _) .nil))
 · rw [if_pos he]
   refine FnC_enterM Tryz.func18 rfl Tryz.ntmps18 rfl fun w0 F0 out => ?_
   (repeat' (first | (apply Zbh 1; refine Stop.out ?_) | refine Zcr ?_ | refine Za8 ?_ | refine Za1 ?_ | refine Za6 ?_ | (apply Zaj; exact rfl; first | (apply Zc9; refine Zbz rfl ?_; intro _) | (apply Zbi; refine Zba ?_; intro _))))
   rename_i b1 b2 b3
   refine ⟨Zbn (Zch (k := 2) (t := 1) rfl rfl) ?_⟩
   (repeat' (first | (apply Zbh 3; refine Stop.out ?_) | refine Za8 ?_ | refine Za1 ?_ | refine Za6 ?_ | (apply Za9; (first | (apply Za7; first | exact Zab (k := 0) rfl rfl rfl rfl | exact Zb2 rfl rfl) | (apply Zah; exact Zc3 rfl rfl)); exact rfl) | (apply Zaj; exact rfl; first | (apply Zao; (refine Zby (.dup 2 rfl rfl .nil) Tryz.func13 rfl hnc rfl ?_ (hH := Zck); rintro _ _ ⟨rfl, rfl⟩)) | (apply Zav; refine Zal (k := 0) (l0 := []) rfl rfl rfl ?_)) | (refine Zac rfl (fun hb => ?_) (fun hb => ?_) <;> (repeat (first | replace hb := Zam hb | replace hb := Zan hb | replace hb := Zbr hb | replace hb := Zbs hb)) <;> (try (exfalso; omega)))))
   refine ⟨WP_norm ?_⟩
   (refine Zbx 1 rfl ?_)
   all_goals (refine Zcg (H2 := feet []) 0 1 (by decide +kernel) rfl Za0 (fun _ _ _ => trivial) rfl Za0 (fun h => absurd h (by decide)) ?_ ?_; (apply WO_t (H := fun _ => True); ((apply Za7; exact Zab (k := 0) rfl rfl rfl rfl)); exact rfl); (apply Zap 1; exact (by decide +kernel); exact rfl; exact Za0; exact (fun h => absurd h (by decide)); ((apply Zav; refine Zal (k := 1) (l0 := []) rfl rfl rfl ?_))); rotate_left; ((apply Zav; refine Zal (k := 1) (l0 := []) rfl rfl rfl ?_)); (apply Zap 0; exact (by decide +kernel); exact rfl; exact Za0; exact (fun _ _ _ => trivial); (apply WO_t (H := fun _ => True); ((apply Za7; exact Zab (k := 0) rfl rfl rfl rfl)); exact rfl)))
   all_goals ((apply Zap 2; exact (by decide +kernel); exact rfl; exact Za0; exact (fun h => absurd h (by decide)); (apply Zav; refine Zal (k := 0) (l0 := []) rfl rfl rfl ?_)))
   all_goals (refine Zb9 (by decide +kernel) ?_)
   all_goals refine ⟨rfl, ?_⟩
   all_goals ((repeat' (first | refine Zaq ?_)))
   all_goals (refine raw_ret rfl ⟨.inr rfl, retw (loc' := []) (ret2 rfl (.cell1 (k := 1) rfl rfl rfl rfl rfl) (.cell1 (k := 0) rfl rfl rfl rfl rfl) (List.nil_sublist _) ⟨rfl, rfl⟩) ?_ ⟨rfl, rfl⟩⟩)
   all_goals exact Ims.tup (.cons Im.nil (.cons (Im.refl _) .nil))
end Go.Proofs.YthldagplhklbnaaGreatDoor
namespace Go.Proofs.YthldagplhklbnaaGreatDoor
open Go Go.RowKit Go.Kx Go.Fr
set_option maxRecDepth 100000 in
theorem nCheck15_any (kk : Nat) (r : RulesD) (hf : r.few = true) : FnC Tryz.prog 8 [rul kk r] [Tab] (fun p loc => p = exI .i64 (r.check15 freeF).2 ∧ loc = []) := by
 have hck := check15_any kk r hf
 unfold rul
 refine Zb7 Tryz.func8 rfl Tryz.ntmps8 rfl fun w0 F0 out => ?_
 (repeat' (first | refine Za8 ?_ | refine Za1 ?_ | refine Za6 ?_ | (apply Za9; (first | exact Za3 rfl | exact Za4 rfl | exact Zb5 rfl rfl | (apply Za7; exact Zb6 (k := 0) rfl rfl rfl)); exact rfl) | refine Zaq ?_ | (apply Zaj; exact rfl; first | (apply Zao; (refine Zby (.dup 1 rfl rfl .nil) Tryz.func18 rfl hck rfl ?_ (hH := Zck); rintro _ _ ⟨rfl, rfl⟩)) | (apply Zc9; refine Zbz rfl ?_; intro _))))
 exact ⟨.inr rfl, ret1 rfl (.tmp rfl) (List.nil_sublist _) ⟨rfl, rfl⟩⟩
set_option maxHeartbeats 1000000 in
set_option maxRecDepth 100000 in
theorem nKeys15_any (kk : Nat) (r : RulesD) (tie : Int) (hf : r.few = true) : FnC Tryz.prog 10 [rul kk r, exI .i64 tie] [Tab] (fun p loc => p = tup [isl eKey (r.keys15 freeF tie).1, exI .i64 (r.keys15 freeF tie).2] ∧ loc = []) := by
 have hck := check15_any kk r hf
 have hlen : (r.check15 freeF).2 = 0 → (r.check15 freeF).1.length = r.ties.length := RulesD.check15_len
 unfold rul RulesD.keys15
 refine Zbe (i := 0) rfl (Zca (i := 4) (p := isl eTie r.ties) rfl Zbl) fun hty => ?_
 obtain ⟨hty, -⟩ := hty
 simp only [maxLen] at hty
 generalize r.check15 freeF = z at *
 obtain ⟨L, e⟩ := z
 simp only at hck hlen ⊢
 by_cases he : e = 0
 · subst he
   have hlen := hlen rfl
   simp only [ne_eq, not_true_eq_false, if_false]
   by_cases h1 : tie < -1 ∨ (r.ties.length : Int) ≤ tie
   · rw [if_pos h1]
     refine Zb7 Tryz.func10 rfl Tryz.ntmps10 rfl fun w0 F0 out => ?_
     (repeat' (first | refine Za8 ?_ | refine Za1 ?_ | refine Za6 ?_ | (apply Za9; (first | exact Za3 rfl | exact Za4 rfl | exact Zas (b := true) rfl (fun _ => rfl) (fun e => by cases e) | exact Zas (b := false) rfl (fun e => by cases e) (fun _ => rfl) | exact Zb5 rfl rfl | (apply Za7; exact Zb6 (k := 0) rfl rfl rfl) | (apply Zah; first | exact Zau rfl rfl | exact Zc3 rfl rfl)); exact rfl) | (refine Zbq rfl rfl rfl rfl rfl ?_) | (apply Zbt; exact rfl; exact rfl; exact rfl; (first | exact Za3 rfl | (apply Za7; exact Zab (k := 0) rfl rfl rfl rfl) | (apply Zat; exact Zaf rfl rfl rfl) | (apply Zah; exact Zcp rfl rfl) | (apply Zax; exact Zb3 rfl rfl)); exact rfl) | refine Zaa ?_ | refine Zaq ?_ | refine Zb4 rfl ?_ | refine Zb8 rfl ?_ | (apply Zaj; exact rfl; first | (apply Zao; (refine Zby (.dup 1 rfl rfl .nil) Tryz.func18 rfl hck rfl ?_ (hH := Zck); rintro _ _ ⟨rfl, rfl⟩)) | (apply Zc9; refine Zbz rfl ?_; intro _)) | (refine Zbm rfl rfl (fun hb => ?_) (fun hb => ?_) <;> (repeat (first | replace hb := Zam hb | replace hb := Zan hb)) <;> (try (exfalso; fail))) | (refine Zac rfl (fun hb => ?_) (fun hb => ?_) <;> (repeat (first | replace hb := Zam hb | replace hb := Zan hb)) <;> (try (exfalso; omega)))))
     all_goals (try (exfalso; omega))
     all_goals (refine ⟨.inr rfl, retw (loc' := []) (ret2 rfl (.tmp rfl) (.tmp rfl) (List.nil_sublist _) ⟨rfl, rfl⟩) ?_ ⟨rfl, rfl⟩⟩)
     all_goals exact Ims.tup (.cons Im.nil (.cons (Im.refl _) .nil))
   · rw [if_neg h1]
     by_cases h2 : tie = -1
     · rw [if_pos h2]
       refine Zb7 Tryz.func10 rfl Tryz.ntmps10 rfl fun w0 F0 out => ?_
       (repeat' (first | refine Za8 ?_ | refine Za1 ?_ | refine Za6 ?_ | (apply Za9; (first | exact Za3 rfl | exact Za4 rfl | exact Zas (b := false) rfl (fun e => by cases e) (fun _ => rfl) | exact Zb5 rfl rfl | (apply Za7; exact Zb6 (k := 0) rfl rfl rfl) | (apply Zah; first | exact Zau rfl rfl | exact Zcd rfl rfl | exact Zc3 rfl rfl)); exact rfl) | (apply Zbt; exact rfl; exact rfl; exact rfl; (first | exact Za3 rfl | (apply Za7; exact Zab (k := 0) rfl rfl rfl rfl) | (apply Zat; exact Zaf rfl rfl rfl) | (apply Zah; exact Zcp rfl rfl) | (apply Zax; exact Zb3 rfl rfl)); exact rfl) | refine Zaa ?_ | refine Zaq ?_ | refine Zb8 rfl ?_ | (apply Zaj; exact rfl; first | (apply Zao; (refine Zby (.dup 1 rfl rfl .nil) Tryz.func18 rfl hck rfl ?_ (hH := Zck); rintro _ _ ⟨rfl, rfl⟩)) | (apply Zc9; refine Zbz rfl ?_; intro _)) | (refine Zbm rfl rfl (fun hb => ?_) (fun hb => ?_) <;> (repeat (first | replace hb := Zam hb | replace hb := Zan hb)) <;> (try (exfalso; omega))) | (refine Zac rfl (fun hb => ?_) (fun hb => ?_) <;> (repeat (first | replace hb := Zam hb | replace hb := Zan hb)) <;> (try (exfalso; omega)))))
       all_goals (try (exfalso; omega))
       all_goals (refine ⟨.inr rfl, retw (loc' := []) (ret2 rfl (.tmp rfl) (.tmp rfl) (List.nil_sublist _) ⟨rfl, rfl⟩) ?_ ⟨rfl, rfl⟩⟩)
       all_goals exact Ims.tup (.cons Im.nil (.cons (Im.refl _) .nil))
     · rw [if_neg h2]
       obtain ⟨t, rfl⟩ : ∃ t : Nat, tie = t := ⟨tie.toNat, by omega⟩
       have htl : t < L.length := by omega
       have hgd : L.getD ((t : Int).toNat) [] = L[t] := by rw [Int.toNat_natCast, List.getD_eq_getElem?_getD, List.getElem?_eq_getElem htl]; rfl
       rw [hgd]
       refine Zb7 Tryz.func10 rfl Tryz.ntmps10 rfl fun w0 F0 out => ?_
       (repeat' (first | refine Za8 ?_ | refine Za1 ?_ | refine Za6 ?_ | (apply Za9; (first | exact Za3 rfl | exact Za4 rfl | exact Zas (b := false) rfl (fun e => by cases e) (fun _ => rfl) | exact Zb5 rfl rfl | (apply Za7; first | exact Zb1 rfl rfl | exact Zb6 (k := 0) rfl rfl rfl) | (apply Zah; first | exact Zau rfl rfl | exact Zcd rfl rfl | exact Zc3 rfl rfl) | (apply Zak; exact Zar rfl rfl rfl)); exact rfl) | (apply Zbt; exact rfl; exact rfl; exact rfl; (first | exact Za3 rfl | (apply Za7; exact Zab (k := 0) rfl rfl rfl rfl) | (apply Zat; exact Zaf rfl rfl rfl) | (apply Zah; exact Zcp rfl rfl) | (apply Zax; exact Zb3 rfl rfl)); exact rfl) | refine Zaa ?_ | refine Zag ?_ | refine Zaq ?_ | refine Zb8 rfl ?_ | (apply Zaj; exact rfl; first | (apply Zao; (refine Zby (.dup 1 rfl rfl .nil) Tryz.func18 rfl hck rfl ?_ (hH := Zck); rintro _ _ ⟨rfl, rfl⟩)) | (apply Zc9; refine Zbz rfl ?_; intro _)) | (refine Zac rfl (fun hb => ?_) (fun hb => ?_) <;> (repeat (first | replace hb := Zam hb | replace hb := Zan hb)) <;> (try (exfalso; omega)))))
       all_goals (try (exfalso; omega))
       exact ⟨.inr rfl, ret2 rfl (.tmp rfl) (.tmp rfl) (List.nil_sublist _) ⟨rfl, rfl⟩⟩
 · rw [if_pos he]
   refine Zb7 Tryz.func10 rfl Tryz.ntmps10 rfl fun w0 F0 out => ?_
   (repeat' (first | refine Za8 ?_ | refine Za1 ?_ | refine Za6 ?_ | (apply Za9; (first | exact Za3 rfl | exact Za4 rfl | exact Zb5 rfl rfl | (apply Za7; exact Zb6 (k := 0) rfl rfl rfl) | (apply Zah; exact Zc3 rfl rfl)); exact rfl) | refine Zaa ?_ | refine Zaq ?_ | (apply Zaj; exact rfl; first | (apply Zao; (refine Zby (.dup 1 rfl rfl .nil) Tryz.func18 rfl hck rfl ?_ (hH := Zck); rintro _ _ ⟨rfl, rfl⟩)) | (apply Zc9; refine Zbz rfl ?_; intro _)) | (refine Zac rfl (fun hb => ?_) (fun hb => ?_) <;> (repeat (first | replace hb := Zam hb | replace hb := Zan hb | replace hb := Zbr hb | replace hb := Zbs hb)) <;> (try (exfalso; omega)))))
   all_goals (try (exfalso; omega))
   refine ⟨.inr rfl, retw (loc' := []) (ret2 rfl (.tmp rfl) (.tmp rfl) (List.nil_sublist _) ⟨rfl, rfl⟩) ?_ ⟨rfl, rfl⟩⟩
   exact Ims.tup (.cons Im.nil (.cons (Im.refl _) .nil))
end Go.Proofs.YthldagplhklbnaaGreatDoor
namespace Go.Fr
open Go.RowKit Go.Kx Go.Proofs.YthldagplhklbnaaGreatDoor
namespace RulesD
def smC : List Crit := [⟨[97, 114, 116], 0, 10, 1, 2, 1, false⟩]
def smK1 : List KeyD := [⟨3, [], 0⟩, ⟨5, [98], 1⟩]
def smK2 : List KeyD := [⟨4, [], 0⟩, ⟨6, [], 0⟩]
def smO2 : List KeyD := [⟨5, [97], 0⟩, ⟨6, [], 0⟩]
def smS2 : List KeyD := [⟨2, [102, 105, 110, 97, 108], 0⟩, ⟨6, [], 0⟩]
def smT (k2 : List KeyD) : List TieD := [⟨[97], smK1⟩, ⟨[98], k2⟩]
def smR (p : Int) : List RoundD := [⟨[102, 105, 110, 97, 108], p, 1, 1, false, false, .mk 2 [97, 114, 116] 0 0 [], [97], 0⟩]
def sm (k2 : List KeyD) (p : Int) : RulesD := ⟨[99, 117, 112], smC, [], [], smT k2, smR p, [], [], 0⟩
def named : RulesD := { zero with name := [97] }
theorem few_sm : (sm smK2 3).few = true ∧ (sm smO2 3).few = true ∧ (sm smS2 3).few = true ∧ (sm smK2 2).few = true ∧ zero.few = true ∧ named.few = true := by decide +kernel
theorem sane_keys : (sm smK2 3).keys15 freeF 0 = ([⟨3, [], 0⟩, ⟨4, [], 0⟩, ⟨6, [], 0⟩], 0) ∧ (sm smK2 3).keys15 freeF (-1) = ([], 0) ∧ ((sm smK2 3).keys15 freeF 2) = ([], 1) := by decide +kernel
theorem sane_check : ((sm smK2 3).check15 freeF).2 = 0 ∧ ((sm smO2 3).check15 freeF).2 = 151 ∧ ((sm smS2 3).check15 freeF).2 = 151 ∧ ((sm smK2 2).check15 freeF).2 = 150 ∧ (zero.check15 freeF).2 = 140 ∧ (named.check15 freeF).2 = 150 := by decide +kernel
end RulesD
end Go.Fr
namespace Go.Proofs.YthldagplhklbnaaGreatDoor
open Go Go.RowKit Go.Kx Go.Fr
set_option maxRecDepth 100000 in
theorem same15_any (a b : List KeyD) : FnC Tryz.prog 12 [isl eKey a, isl eKey b] [] (fun p loc => p = exB (decide (a = b)) ∧ loc = []) := by
 refine Zbe (i := 0) rfl Zbl fun ha => ?_
 refine Zbe (i := 1) rfl Zbl fun hb => ?_
 obtain ⟨ha, -⟩ := ha
 obtain ⟨hb, -⟩ := hb
 simp only [maxLen] at ha hb
 refine Zb7 Tryz.func12 rfl Tryz.ntmps12 rfl fun w0 F0 out => ?_
 by_cases hl : a.length = b.length
 · (repeat' (first | refine Za8 ?_ | refine Za1 ?_ | refine Za6 ?_ | (apply Za9; (first | exact Za3 rfl | exact Za4 rfl | (apply Zah; exact Zc3 rfl rfl) | (apply Zax; exact Zb3 rfl rfl)); exact rfl) | refine Zaa ?_ | refine Zag ?_ | (refine Zac rfl (fun hb => ?_) (fun hb => ?_) <;> (repeat (first | replace hb := Zam hb | replace hb := Zan hb | replace hb := Zbr hb | replace hb := Zbs hb)) <;> (try (exfalso; omega)))))
   all_goals (try (exfalso; omega))
   refine Zbv (fun k : Nat => ([(0, isl eKey a), (1, isl eKey b), (5, exI .i64 k)], [])) (fun k => k ≤ a.length ∧ a.take k = b.take k) (fun k => a.length - k) 0 ?_ ⟨Nat.zero_le _, rfl⟩ fun k hk => ?_
   · exact Zae (by repeat (first | exact Zai | refine Zad rfl ?_)) (List.Sublist.refl _)
   obtain ⟨hk, ht⟩ := hk
   by_cases hlt : k < a.length
   · by_cases he : a[k] = b[k]'(by omega)
     · (repeat' (first | refine Za8 ?_ | refine Za1 ?_ | refine Za6 ?_ | (apply Za9; (first | exact Za3 rfl | (apply Zah; exact Zau rfl rfl) | (apply Zax; exact Zb3 rfl rfl)); exact rfl) | refine Zaa ?_ | refine Zag ?_ | (refine Zac rfl (fun hb => ?_) (fun hb => ?_) <;> (repeat (first | replace hb := Zam hb | replace hb := Zan hb)) <;> (try (exfalso; omega)))))
       (refine Zbx 9 rfl ?_)
       all_goals ((apply Za2 0 rfl (by decide +kernel) rfl (by repeat (first | exact Za5)) Za0; (first | exact Za3 rfl); exact rfl))
       all_goals ((apply Za2 1 rfl (by decide +kernel) rfl (by repeat (first | exact Za5)) Za0; (first | exact Za3 rfl); exact rfl))
       all_goals ((apply Za2 2 rfl (by decide +kernel) rfl (by repeat (first | exact Za5)) Za0; (first | (apply Zak; first | exact Zar rfl rfl rfl)); exact rfl))
       all_goals ((apply Zb0 3 rfl (by decide +kernel) rfl (by decide +kernel) (by repeat (exact Za5)) Za0; ((apply Za7; exact Zb2 rfl rfl)); exact rfl))
       all_goals ((apply Za2 4 rfl (by decide +kernel) rfl (by repeat (first | exact Za5)) Za0; (first | exact Za3 rfl); exact rfl))
       all_goals ((apply Za2 5 rfl (by decide +kernel) rfl (by repeat (first | exact Za5)) Za0; (first | exact Za3 rfl); exact rfl))
       all_goals ((apply Za2 6 rfl (by decide +kernel) rfl (by repeat (first | exact Za5)) Za0; (first | (apply Zak; first | exact Zar rfl rfl rfl)); exact rfl))
       all_goals ((apply Zb0 7 rfl (by decide +kernel) rfl (by decide +kernel) (by repeat (exact Za5)) Za0; ((apply Za7; exact Zb2 rfl rfl)); exact rfl))
       all_goals ((apply Za2 8 rfl (by decide +kernel) rfl (by repeat (first | exact Za5)) Za0; (first | (apply Zah; first | exact WT_aneD inferInstance rfl rfl)); exact rfl))
       all_goals (refine Zb9 (by decide +kernel) ?_)
       all_goals ((repeat' (first | refine Za8 ?_ | refine Za1 ?_ | refine Za6 ?_ | (apply Za9; (first | exact Za3 rfl | exact Za4 rfl | (apply Zah; exact Zbf rfl rfl)); exact rfl) | refine Zag ?_ | refine Zaq ?_ | (refine Zac rfl (fun hb => ?_) (fun hb => ?_) <;> (repeat (first | replace hb := Zam hb | replace hb := Zan hb | replace hb := Zbr hb | replace hb := Zbs hb)) <;> (try (exfalso; fail))))))
       all_goals (try (exfalso; simp_all; done))
       exact ⟨k + 1, ⟨by omega, by rw [List.take_succ_eq_append_getElem hlt, List.take_succ_eq_append_getElem (by omega), ht, he]⟩, by omega, Zae (by repeat (first | exact Zai | refine Zad rfl ?_)) (List.Sublist.refl _)⟩
     · (repeat' (first | refine Za8 ?_ | refine Za1 ?_ | refine Za6 ?_ | (apply Za9; (first | exact Za3 rfl | (apply Zah; exact Zau rfl rfl) | (apply Zax; exact Zb3 rfl rfl)); exact rfl) | refine Zaa ?_ | refine Zag ?_ | (refine Zac rfl (fun hb => ?_) (fun hb => ?_) <;> (repeat (first | replace hb := Zam hb | replace hb := Zan hb)) <;> (try (exfalso; omega)))))
       (refine Zbx 9 rfl ?_)
       all_goals ((apply Za2 0 rfl (by decide +kernel) rfl (by repeat (first | exact Za5)) Za0; (first | exact Za3 rfl); exact rfl))
       all_goals ((apply Za2 1 rfl (by decide +kernel) rfl (by repeat (first | exact Za5)) Za0; (first | exact Za3 rfl); exact rfl))
       all_goals ((apply Za2 2 rfl (by decide +kernel) rfl (by repeat (first | exact Za5)) Za0; (first | (apply Zak; first | exact Zar rfl rfl rfl)); exact rfl))
       all_goals ((apply Zb0 3 rfl (by decide +kernel) rfl (by decide +kernel) (by repeat (exact Za5)) Za0; ((apply Za7; exact Zb2 rfl rfl)); exact rfl))
       all_goals ((apply Za2 4 rfl (by decide +kernel) rfl (by repeat (first | exact Za5)) Za0; (first | exact Za3 rfl); exact rfl))
       all_goals ((apply Za2 5 rfl (by decide +kernel) rfl (by repeat (first | exact Za5)) Za0; (first | exact Za3 rfl); exact rfl))
       all_goals ((apply Za2 6 rfl (by decide +kernel) rfl (by repeat (first | exact Za5)) Za0; (first | (apply Zak; first | exact Zar rfl rfl rfl)); exact rfl))
       all_goals ((apply Zb0 7 rfl (by decide +kernel) rfl (by decide +kernel) (by repeat (exact Za5)) Za0; ((apply Za7; exact Zb2 rfl rfl)); exact rfl))
       all_goals ((apply Za2 8 rfl (by decide +kernel) rfl (by repeat (first | exact Za5)) Za0; (first | (apply Zah; first | exact WT_aneD inferInstance rfl rfl)); exact rfl))
       all_goals (refine Zb9 (by decide +kernel) ?_)
       all_goals ((repeat' (first | refine Za8 ?_ | refine Za1 ?_ | refine Za6 ?_ | (apply Za9; (first | exact Za3 rfl | exact Za4 rfl | (apply Zah; exact Zbf rfl rfl)); exact rfl) | refine Zag ?_ | refine Zaq ?_ | (refine Zac rfl (fun hb => ?_) (fun hb => ?_) <;> (repeat (first | replace hb := Zam hb | replace hb := Zan hb | replace hb := Zbr hb | replace hb := Zbs hb)) <;> (try (exfalso; fail))))))
       all_goals (try (exfalso; simp_all; done))
       refine ⟨.inr rfl, ret1 rfl (.tmp rfl) (List.nil_sublist _) ⟨congrArg exB ?_, rfl⟩⟩
       exact (decide_eq_false fun e => he (by subst e; rfl)).symm
   · have hk9 : k = a.length := by omega
     subst hk9
     rw [List.take_length, hl, List.take_length] at ht
     (repeat' (first | refine Za8 ?_ | refine Za1 ?_ | refine Za6 ?_ | (apply Za9; (first | exact Za3 rfl | exact Za4 rfl | (apply Zah; exact Zau rfl rfl) | (apply Zax; exact Zb3 rfl rfl)); exact rfl) | refine Zaq ?_ | refine Zbk ?_ | (refine Zac rfl (fun hb => ?_) (fun hb => ?_) <;> (repeat (first | replace hb := Zam hb | replace hb := Zan hb)) <;> (try (exfalso; omega)))))
     refine ⟨.inr rfl, ret1 rfl (.tmp rfl) (List.nil_sublist _) ⟨congrArg exB ?_, rfl⟩⟩
     exact (decide_eq_true ht).symm
 · (repeat' (first | refine Za8 ?_ | refine Za1 ?_ | refine Za6 ?_ | (apply Za9; (first | exact Za3 rfl | exact Za4 rfl | (apply Zah; exact Zc3 rfl rfl) | (apply Zax; exact Zb3 rfl rfl)); exact rfl) | refine Zaq ?_ | (refine Zac rfl (fun hb => ?_) (fun hb => ?_) <;> (repeat (first | replace hb := Zam hb | replace hb := Zan hb | replace hb := Zbr hb | replace hb := Zbs hb)) <;> (try (exfalso; omega)))))
   all_goals (try (exfalso; omega))
   refine ⟨.inr rfl, ret1 rfl (.tmp rfl) (List.nil_sublist _) ⟨congrArg exB ?_, rfl⟩⟩
   exact (decide_eq_false fun e => hl (by rw [e])).symm
abbrev smA (bc bt br : Nat) : List SP := [exT [99, 117, 112], ex (.slice (some ⟨bc, 0, none⟩) 1 1), ex (.slice none 0 0), ex (.slice none 0 0), ex (.slice (some ⟨bt, 0, none⟩) 2 2), ex (.slice (some ⟨br, 0, none⟩) 1 1), ex (.slice none 0 0), ex (.slice none 0 0), exI .i64 0]
abbrev smL (bc b1 b2 bt br : Nat) (k2 : List KeyD) (p : Int) : List Ent := [row br 48 13 [exT [102, 105, 110, 97, 108], exI .i64 p, exI .i64 1, exI .i64 1, exB false, exB false, exI .i64 2, exT [97, 114, 116], exI .i64 0, exI .i64 0, ex (.slice none 0 0), exT [97], exI .i64 0], row bt 40 4 [exT [97], ex (.slice (some ⟨b1, 0, none⟩) 2 2), exT [98], ex (.slice (some ⟨b2, 0, none⟩) 2 2)], row b2 42 6 (k2.flatMap keyV), row b1 42 6 (RulesD.smK1.flatMap keyV), row bc 69 7 (RulesD.smC.flatMap critV)]
set_option maxHeartbeats 1000000 in
set_option maxRecDepth 100000 in
theorem small15_any : FnC Tryz.prog 16 [] [] (fun p loc => ∃ bc b1 b2 bt br : Nat, p = agg (smA bc bt br) ∧ loc = smL bc b1 b2 bt br RulesD.smK2 3) := by
 refine Zb7 Tryz.func16 rfl Tryz.ntmps16 rfl fun w0 F0 out => ?_
 (repeat' (first | refine Za8 ?_ | refine Za1 ?_ | refine Za6 ?_ | (apply Za9; ((apply g_build; exact WT_build2 rfl rfl (by repeat (first | exact PartsO.nil | (apply PartsO.cons; exact rfl; exact inferInstance; exact rfl; exact rfl))))); exact rfl) | refine Zaq ?_ | (apply Zaj; exact rfl; first | (apply Zbi; refine Zba ?_; intro _) | (apply Zav; refine Zal (k := 5) (l0 := []) rfl rfl rfl ?_) | (apply Zcb; (first | refine Zce rfl rfl ?_ | refine WO_bslice rfl (by repeat (first | exact PartsO.nil | (apply PartsO.cons; exact rfl; exact inferInstance; exact rfl; exact rfl))) ?_); intro _))))
 rename_i b0 bc b1 b2 bt br
 refine ⟨.inr rfl, ret1 rfl (.cella (k := 5) rfl rfl rfl rfl inferInstance rfl) ?_ ⟨bc, b1, b2, bt, br, rfl, rfl⟩⟩
 exact List.sublist_append_left (smL bc b1 b2 bt br RulesD.smK2 3) [_]
set_option maxHeartbeats 2000000 in
theorem sm_freeze {C : Cx} {env : Env} {rest : List Ent} (bX bc b1 b2 bt br : Nat) (k2 : List KeyD) (p : Int) (h2 : k2.length = 2) (hfree : Fr.look C.N env = none) : Leads C env (row bX 28 9 (smA bc bt br) :: (smL bc b1 b2 bt br k2 p ++ rest)) env (row bX 28 9 (rulesV 2 (RulesD.sm k2 p)) :: rest) := by
 have hk2 : (k2.flatMap keyV).length = 2 * 3 := by rw [length_flat (s := 3) (fun _ => rfl), h2]
 unfold smA smL
 refine Leads_row_vec (k := 3) (sz := 3) (n := 2) (c := 2) rfl rfl hk2 (by decide) (by decide) ?_
 refine (Leads_fcell (j := 3) (k := 2) (i := 3) (E := eKey) (fs := keyV) k2 hfree rfl rfl h2 rfl rfl (hby := Nat.le_of_ble_eq_true rfl)).trans ?_
 refine Leads_row_vec (k := 3) (sz := 3) (n := 2) (c := 2) rfl rfl rfl (by decide) (by decide) ?_
 refine (Leads_fcell (j := 3) (k := 2) (i := 1) (E := eKey) (fs := keyV) RulesD.smK1 hfree rfl rfl rfl rfl rfl (hby := Nat.le_of_ble_eq_true rfl)).trans ?_
 refine Leads_row_vec (k := 2) (sz := 2) (n := 2) (c := 2) rfl rfl rfl (by decide) (by decide) ?_
 refine (Leads_fcell (j := 2) (k := 0) (i := 4) (E := eTie) (fs := tieV) (RulesD.smT k2) hfree rfl rfl rfl rfl rfl (hby := Nat.le_of_ble_eq_true rfl)).trans ?_
 refine (Leads_row_im (k := 1) (qs := (RulesD.smR p).flatMap (roundV 2)) rfl ?_).trans ?_
 · exact .cons (Im.refl _) (.cons (Im.refl _) (.cons (Im.refl _) (.cons (Im.refl _) (.cons (Im.refl _) (.cons (Im.refl _) (.cons (Im.refl _) (.cons (Im.refl _) (.cons (Im.refl _) (.cons (Im.refl _) (.cons (Im.nil (E := eEx 1)) (.cons (Im.refl _) (.cons (Im.refl _) .nil))))))))))))
 refine Leads_row_vec (k := 1) (sz := 13) (n := 1) (c := 1) rfl rfl rfl (by decide) (by decide) ?_
 refine (Leads_fcell (j := 1) (k := 0) (i := 5) (E := eRound 2) (fs := roundV 2) (RulesD.smR p) hfree rfl rfl rfl rfl rfl (hby := Nat.le_of_ble_eq_true rfl)).trans ?_
 refine Leads_row_vec (k := 1) (sz := 7) (n := 1) (c := 1) rfl rfl rfl (by decide) (by decide) ?_
 refine (Leads_fcell (j := 1) (k := 0) (i := 1) (E := eCrit) (fs := critV) RulesD.smC hfree rfl rfl rfl rfl rfl (hby := Nat.le_of_ble_eq_true rfl)).trans ?_
 refine (Leads_row_im (k := 0) (qs := rulesV 2 (RulesD.sm k2 p)) rfl ?_).trans ?_
 · exact .cons (Im.refl _) (.cons (Im.refl _) (.cons Im.nil (.cons Im.nil (.cons (Im.refl _) (.cons (Im.refl _) (.cons Im.nil (.cons Im.nil (.cons (Im.refl _) .nil))))))))
 simp only [List.cons_append, List.nil_append, List.set_cons_zero, List.set_cons_succ, List.eraseIdx_cons_zero, List.eraseIdx_cons_succ]
 exact Zae (fun _ _ h => h) (List.Sublist.refl (row bX 28 9 (rulesV 2 (RulesD.sm k2 p)) :: rest))
end Go.Proofs.YthldagplhklbnaaGreatDoor
namespace Go.Proofs.YthldagplhklbnaaGreatDoor
open Go Go.RowKit Go.Kx Go.Fr
theorem sm_frozen {C : Cx} {env : Env} {rest loc : List Ent} (bX bc b1 b2 bt br : Nat) (k2 : List KeyD) (p : Int) (h2 : k2.length = 2) (hfree : Fr.look C.N env = none) (hl : (row bX 28 9 (smA bc bt br) :: (smL bc b1 b2 bt br k2 p ++ rest)).Sublist loc) : Leads C env loc env (row bX 28 9 (rulesV 2 (RulesD.sm k2 p)) :: rest) := (Zae (fun _ _ h => h) hl).trans (sm_freeze bX bc b1 b2 bt br k2 p h2 hfree)
set_option maxHeartbeats 4000000 in
set_option maxRecDepth 100000 in
theorem sane15_any : FnC Tryz.prog 6 [] [Tab] (fun p loc => p = exB true ∧ loc = []) := by
 have hk0 := nKeys15_any 2 (RulesD.sm RulesD.smK2 3) 0 RulesD.few_sm.1
 have hk1 := nKeys15_any 2 (RulesD.sm RulesD.smK2 3) (-1) RulesD.few_sm.1
 have hk2 := nKeys15_any 2 (RulesD.sm RulesD.smK2 3) 2 RulesD.few_sm.1
 rw [RulesD.sane_keys.1] at hk0
 rw [RulesD.sane_keys.2.1] at hk1
 rw [RulesD.sane_keys.2.2] at hk2
 have hcA := nCheck15_any 2 (RulesD.sm RulesD.smK2 3) RulesD.few_sm.1
 have hcB := nCheck15_any 2 (RulesD.sm RulesD.smO2 3) RulesD.few_sm.2.1
 have hcC := nCheck15_any 2 (RulesD.sm RulesD.smS2 3) RulesD.few_sm.2.2.1
 have hcD := nCheck15_any 2 (RulesD.sm RulesD.smK2 2) RulesD.few_sm.2.2.2.1
 rw [RulesD.sane_check.1] at hcA
 rw [RulesD.sane_check.2.1] at hcB
 rw [RulesD.sane_check.2.2.1] at hcC
 rw [RulesD.sane_check.2.2.2.1] at hcD
 have hcE : FnC Tryz.prog 8 [agg [ex (.string .empty), ex (.slice none 0 0), ex (.slice none 0 0), ex (.slice none 0 0), ex (.slice none 0 0), ex (.slice none 0 0), ex (.slice none 0 0), ex (.slice none 0 0), exI .i64 0]] [Tab] (fun p loc => p = exI .i64 140 ∧ loc = []) := by
   have h := nCheck15_any 2 RulesD.zero RulesD.few_sm.2.2.2.2.1
   rw [RulesD.sane_check.2.2.2.2.1] at h
   exact FnC_args h (.cons (Ims.agg (by repeat (first | exact Ims.nil | refine Ims.cons Im.nil ?_ | refine Ims.cons (Im.refl _) ?_))) .nil)
 have hcF : FnC Tryz.prog 8 [agg [exT [97], ex (.slice none 0 0), ex (.slice none 0 0), ex (.slice none 0 0), ex (.slice none 0 0), ex (.slice none 0 0), ex (.slice none 0 0), ex (.slice none 0 0), exI .i64 0]] [Tab] (fun p loc => p = exI .i64 150 ∧ loc = []) := by
   have h := nCheck15_any 2 RulesD.named RulesD.few_sm.2.2.2.2.2
   rw [RulesD.sane_check.2.2.2.2.2] at h
   exact FnC_args h (.cons (Ims.agg (by repeat (first | exact Ims.nil | refine Ims.cons Im.nil ?_ | refine Ims.cons (Im.refl _) ?_))) .nil)
 refine Zb7 Tryz.func6 rfl Tryz.ntmps6 rfl fun w0 F0 out => ?_
 (repeat' (first | (apply Zbh 2; refine Stop.out ?_) | refine Za8 ?_ | refine Za1 ?_ | refine Za6 ?_ | (apply Za9; (exact Za4 rfl); exact rfl) | (apply Zaj; exact rfl; first | (apply Zao; (refine Zaw Tryz.func16 rfl small15_any rfl ?_; rintro _ _ ⟨bc, b1, b2, bt, br, rfl, rfl⟩)) | (apply Zbi; refine Zba ?_; intro _) | (apply Zav; refine Zal (k := 0) (l0 := []) rfl rfl rfl ?_))))
 rename_i bA
 refine ⟨Zbn (sm_frozen bA bc b1 b2 bt br RulesD.smK2 3 rfl rfl (List.Sublist.refl (row bA 28 9 (smA bc bt br) :: (smL bc b1 b2 bt br RulesD.smK2 3 ++ [Tab])))) ?_⟩
 (repeat' (first | (apply Zbh 3; refine Stop.out ?_) | refine Za8 ?_ | refine Za1 ?_ | refine Za6 ?_ | (apply Za9; (first | exact Za3 rfl | exact Za4 rfl | exact Zb5 rfl rfl | (apply Za7; exact Zb6 (k := 0) rfl rfl rfl)); exact rfl) | (apply Zaj; exact rfl; (apply Zao; (refine Zby (.dup 1 rfl rfl .nil) Tryz.func10 rfl hk0 rfl ?_ (hH := Zck); rintro _ _ ⟨rfl, rfl⟩)))))
 refine ⟨?_⟩
 (repeat' (first | (apply Zbh 4; refine Stop.out ?_) | refine Za8 ?_ | refine Za1 ?_ | refine Za6 ?_ | (apply Za9; (first | exact Za3 rfl | exact Za4 rfl | exact Zb5 rfl rfl | (apply Za7; exact Zb6 (k := 0) rfl rfl rfl)); exact rfl) | (apply Zaj; exact rfl; (apply Zao; (refine Zby (.dup 1 rfl rfl .nil) Tryz.func10 rfl hk1 rfl ?_ (hH := Zck); rintro _ _ ⟨rfl, rfl⟩)))))
 refine ⟨?_⟩
 (repeat' (first | (apply Zbh 7; refine Stop.out ?_) | refine Za8 ?_ | refine Za1 ?_ | refine Za6 ?_ | (apply Za9; (first | exact Za3 rfl | exact Za4 rfl | exact Zb5 rfl rfl | (apply Za7; first | exact Zab (k := 0) rfl rfl rfl rfl | exact Zab (k := 2) rfl rfl rfl rfl | exact Zb6 (k := 0) rfl rfl rfl) | (apply Zat; exact Zaf rfl rfl rfl) | (apply Zak; exact Zc0 rfl rfl rfl) | (apply g_build; exact WT_build2 rfl rfl (by repeat (first | exact PartsO.nil | (apply PartsO.cons; exact rfl; exact inferInstance; exact rfl; exact rfl))))); exact rfl) | (apply Zaj; exact rfl; first | (apply Zao; first | (refine Zby (.dup 1 rfl rfl .nil) Tryz.func10 rfl hk2 rfl ?_ (hH := Zck); rintro _ _ ⟨rfl, rfl⟩) | (refine Zaw Tryz.func16 rfl small15_any rfl ?_; rintro _ _ ⟨bc, b1, b2, bt, br, rfl, rfl⟩)) | (apply Zbi; refine Zba ?_; intro _) | (apply Zav; first | refine Zal (k := 0) (l0 := []) rfl rfl rfl ?_ | refine Zal (k := 3) (l0 := []) rfl rfl rfl ?_))))
 rename_i bB
 refine ⟨Zbn (sm_frozen bB bc b1 b2 bt br RulesD.smO2 3 rfl rfl (List.Sublist.refl (row bB 28 9 (smA bc bt br) :: (smL bc b1 b2 bt br RulesD.smO2 3 ++ [row bA 28 9 (rulesV 2 (RulesD.sm RulesD.smK2 3)), Tab])))) ?_⟩
 (repeat' (first | (apply Zbh 9; refine Stop.out ?_) | refine Za8 ?_ | refine Za1 ?_ | refine Za6 ?_ | (apply Za9; (first | (apply Za7; first | exact Zab (k := 0) rfl rfl rfl rfl | exact Zab (k := 2) rfl rfl rfl rfl) | (apply Zat; exact Zaf rfl rfl rfl) | (apply Zak; exact Zc0 rfl rfl rfl) | (apply g_build; exact WT_build2 rfl rfl (by repeat (first | exact PartsO.nil | (apply PartsO.cons; exact rfl; exact inferInstance; exact rfl; exact rfl))))); exact rfl) | (apply Zaj; exact rfl; first | (apply Zao; (refine Zaw Tryz.func16 rfl small15_any rfl ?_; rintro _ _ ⟨bc, b1, b2, bt, br, rfl, rfl⟩)) | (apply Zbi; refine Zba ?_; intro _) | (apply Zav; first | refine Zal (k := 0) (l0 := []) rfl rfl rfl ?_ | refine Zal (k := 3) (l0 := []) rfl rfl rfl ?_))))
 rename_i bC
 refine ⟨Zbn (sm_frozen bC bc b1 b2 bt br RulesD.smS2 3 rfl rfl (List.Sublist.refl (row bC 28 9 (smA bc bt br) :: (smL bc b1 b2 bt br RulesD.smS2 3 ++ [row bB 28 9 (rulesV 2 (RulesD.sm RulesD.smO2 3)), row bA 28 9 (rulesV 2 (RulesD.sm RulesD.smK2 3)), Tab])))) ?_⟩
 (repeat' (first | (apply Zbh 11; refine Stop.out ?_) | refine Za8 ?_ | refine Za1 ?_ | refine Za6 ?_ | (apply Za9; (first | (apply Za7; exact Zab (k := 0) rfl rfl rfl rfl) | (apply Zat; exact Zaf rfl rfl rfl) | (apply Zak; exact Zc0 rfl rfl rfl)); exact rfl) | (apply Zaj; exact rfl; first | (apply Zao; (refine Zaw Tryz.func16 rfl small15_any rfl ?_; rintro _ _ ⟨bc, b1, b2, bt, br, rfl, rfl⟩)) | (apply Zbi; refine Zba ?_; intro _) | (apply Zav; first | refine Zal (k := 0) (l0 := []) rfl rfl rfl ?_ | refine Zal (k := 1) (l0 := []) rfl rfl rfl ?_))))
 rename_i bD
 refine ⟨Zbn (sm_frozen bD bc b1 b2 bt br RulesD.smK2 2 rfl rfl (List.Sublist.refl (row bD 28 9 (smA bc bt br) :: (smL bc b1 b2 bt br RulesD.smK2 2 ++ [row bC 28 9 (rulesV 2 (RulesD.sm RulesD.smS2 3)), row bB 28 9 (rulesV 2 (RulesD.sm RulesD.smO2 3)), row bA 28 9 (rulesV 2 (RulesD.sm RulesD.smK2 3)), Tab])))) ?_⟩
 refine Zbn (Zae (env' := [(0, ex (.bool false)), (1, ex (.pointer (some ⟨bA, 0, none⟩))), (2, isl eKey [⟨3, [], 0⟩, ⟨4, [], 0⟩, ⟨6, [], 0⟩]), (3, exI .i64 0), (4, isl eKey []), (5, exI .i64 0), (7, exI .i64 1), (8, ex (.pointer (some ⟨bB, 0, none⟩))), (9, ex (.pointer (some ⟨bC, 0, none⟩))), (10, ex (.pointer (some ⟨bD, 0, none⟩)))]) (loc' := [row bD 28 9 (rulesV 2 (RulesD.sm RulesD.smK2 2)), row bC 28 9 (rulesV 2 (RulesD.sm RulesD.smS2 3)), row bB 28 9 (rulesV 2 (RulesD.sm RulesD.smO2 3)), row bA 28 9 (rulesV 2 (RulesD.sm RulesD.smK2 3)), Tab]) (by repeat (first | exact Zai | refine Zad rfl ?_)) (List.Sublist.refl _)) ?_
 (repeat' (first | (apply Zbh 13; refine Stop.out ?_) | refine Za8 ?_ | refine Za1 ?_ | refine Za6 ?_ | (apply Za9; (first | exact Za3 rfl | exact Zas (b := false) rfl (fun e => by cases e) (fun _ => rfl) | (apply Zah; exact Zc3 rfl rfl)); exact rfl) | (apply Zbt; exact rfl; exact rfl; exact rfl; (first | exact Za3 rfl | (apply Za7; first | exact Zb6 (k := 0) rfl rfl rfl | exact Zb6 (k := 1) rfl rfl rfl | exact Zb6 (k := 2) rfl rfl rfl | exact Zb6 (k := 3) rfl rfl rfl) | (apply Zah; exact Zc3 rfl rfl) | (apply Zax; exact Zb3 rfl rfl)); exact rfl) | refine Zag ?_ | refine Zb8 rfl ?_ | (apply Zc8; exact rfl; exact rfl; exact rfl; exact rfl; (apply Zao; ((first | refine Zby (.dup 4 rfl rfl .nil) Tryz.func8 rfl hcA rfl ?_ (hH := Zck) | refine Zby (.dup 4 rfl rfl .nil) Tryz.func8 rfl hcB rfl ?_ (hH := Zck) | refine Zby (.dup 4 rfl rfl .nil) Tryz.func8 rfl hcC rfl ?_ (hH := Zck) | refine Zby (.dup 4 rfl rfl .nil) Tryz.func8 rfl hcD rfl ?_ (hH := Zck)); rintro _ _ ⟨rfl, rfl⟩)))))
 refine ⟨?_⟩
 have hsm := same15_any [⟨3, [], 0⟩, ⟨4, [], 0⟩, ⟨6, [], 0⟩] [⟨3, [], 0⟩, ⟨4, [], 0⟩, ⟨6, [], 0⟩]
 rw [decide_eq_true rfl] at hsm
 (repeat' (first | (apply at_dst 88; refine Stop.out ?_) | refine Za1 ?_ | (apply Za9; (first | exact Za3 rfl | (apply g_build; exact WT_build2 rfl rfl (by repeat (first | exact PartsO.nil | (apply PartsO.cons; exact rfl; exact inferInstance; exact rfl; exact rfl))))); exact rfl) | (apply Zaj; exact rfl; (apply Zcb; (refine WO_bslice rfl (by repeat (first | exact PartsO.nil | (apply PartsO.cons; exact rfl; exact inferInstance; exact rfl; exact rfl))) ?_); intro _))))
 refine ⟨?_⟩
 refine WPL_frowi (k := 0) (t := 87) (E := eKey) [⟨3, [], 0⟩, ⟨4, [], 0⟩, ⟨6, [], 0⟩] rfl rfl ?_ rfl ?_ (hby := Nat.le_of_ble_eq_true rfl)
 · exact .cons (Im.refl _) (.cons (Im.refl _) (.cons (Im.refl _) (.cons (Im.refl _) (.cons (Im.refl _) (.cons (Im.refl _) (.cons (Im.refl _) (.cons (Im.refl _) (.cons (Im.refl _) .nil))))))))
 (repeat' (first | refine Za6 ?_ | (apply Za9; (first | exact Za3 rfl | exact Za4 rfl | exact Zas (b := true) rfl (fun _ => rfl) (fun e => by cases e)); exact rfl) | (apply Zbt; exact rfl; exact rfl; exact rfl; (first | (apply Zah; exact Zcd rfl rfl) | (apply g_build; exact WT_build2 rfl rfl (by repeat (first | exact PartsO.nil | (apply PartsO.cons; exact rfl; exact inferInstance; exact rfl; exact rfl))))); exact rfl) | refine Zaq ?_ | (apply Zaj; exact rfl; (apply Zao; (refine Zaw Tryz.func12 rfl hsm rfl ?_; rintro _ _ ⟨rfl, rfl⟩))) | (apply Zc8; exact rfl; exact rfl; exact rfl; exact rfl; (apply Zao; ((first | refine Zby (.dup 4 rfl rfl .nil) Tryz.func8 rfl hcE rfl ?_ (hH := Zck) | refine Zby (.dup 4 rfl rfl .nil) Tryz.func8 rfl hcF rfl ?_ (hH := Zck)); rintro _ _ ⟨rfl, rfl⟩)))))
 exact ⟨.inr rfl, ret1 rfl (.tmp rfl) (List.nil_sublist _) ⟨rfl, rfl⟩⟩
end Go.Proofs.YthldagplhklbnaaGreatDoor
namespace Go.Fr
open Go.RowKit Go.Kx
def expd (L : List (List KeyD)) (k : KeyD) : List KeyD := if k.kind = 5 then L.getD k.n.toNat [] else [k]
def XS.good (ties : List TieD) (s : XS) : Prop := ∀ i, s.l.getD i [] ≠ [] → s.l.getD i [] = (keysAt ties i).flatMap (expd s.l) ∧ ∀ k ∈ keysAt ties i, k.kind = 5 → s.l.getD k.n.toNat [] ≠ []
structure XS.ext (opn : List Nat) (s s' : XS) : Prop where
 keep : ∀ j, s.l.getD j [] ≠ [] → s'.l.getD j [] = s.l.getD j []
 opn : ∀ j ∈ opn, s'.l.getD j [] = s.l.getD j []
structure XS.mono (s s' : XS) : Prop where
 c : s.circle = true → s'.circle = true
 l : s.long = true → s'.long = true
theorem XS.mono.refl (s : XS) : s.mono s := ⟨id, id⟩
theorem XS.mono.trans {a b c : XS} (h : a.mono b) (k : b.mono c) : a.mono c := ⟨fun e => k.c (h.c e), fun e => k.l (h.l e)⟩
theorem XS.mono.offc {a b : XS} (h : a.mono b) (k : b.circle = false) : a.circle = false := by
 cases he : a.circle with
 | false => rfl
 | true => rw [h.c he] at k; cases k
theorem fold_mono {g : Nat → XS → List KeyD × XS} (hg : ∀ (j : Nat) (s : XS), s.mono (g j s).2) : ∀ (l : List KeyD) (a : List KeyD × XS), a.2.mono (l.foldl (expStep g) a).2
 | [], a => .refl _
 | k :: l, a => by
   refine XS.mono.trans (b := (expStep g a k).2) ?_ (fold_mono hg l _)
   unfold expStep
   split
   · exact hg _ _
   · exact .refl _
theorem expF_mono (ties : List TieD) : ∀ (f : Nat) (opn : List Nat) (i : Nat) (s : XS), s.mono (expF ties f opn i s).2
 | 0, _, _, s => .refl _
 | f + 1, opn, i, s => by
   unfold expF
   split
   · exact ⟨fun _ => rfl, id⟩
   · split
     · exact .refl _
     · have h := fold_mono (fun j s => expF_mono ties f (opn ++ [i]) j s) (keysAt ties i) (([] : List KeyD), s)
       exact ⟨fun e => h.c e, fun e => by show (_ || _) = true; rw [h.l e]; rfl⟩
theorem getD_set_self {L : List (List KeyD)} {i : Nat} {x : List KeyD} (h : i < L.length) : (L.set i x).getD i [] = x := by
 rw [List.getD_eq_getElem?_getD, List.getElem?_set_self h]; rfl
theorem getD_set_ne {L : List (List KeyD)} {i j : Nat} {x : List KeyD} (h : i ≠ j) : (L.set i x).getD j [] = L.getD j [] := by
 rw [List.getD_eq_getElem?_getD, List.getD_eq_getElem?_getD, List.getElem?_set_ne h]
def linkK (n : Nat) (l : List KeyD) : Prop := ∀ k ∈ l, k.kind = 5 → k.n.toNat < n
theorem flatMap_ne {α β : Type} {f : α → List β} {l : List α} (hl : l ≠ []) (h : ∀ x ∈ l, f x ≠ []) : l.flatMap f ≠ [] := by
 cases l with
 | nil => exact absurd rfl hl
 | cons a l => rw [List.flatMap_cons]; exact fun e => h a List.mem_cons_self (List.append_eq_nil_iff.1 e).1
end Go.Fr
namespace Go.Fr
open Go.RowKit Go.Kx
def XS.short (s : XS) : Prop := s.long = false → ∀ x ∈ s.l, x.length ≤ 32
def XS.allK (Q : KeyD → Prop) (s : XS) : Prop := ∀ x ∈ s.l, ∀ k ∈ x, Q k
def expRun (ties : List TieD) (m : Nat) : XS := (List.range m).foldl (fun s i => (expF ties (ties.length + 1) [] i s).2) ⟨List.replicate ties.length [], false, false⟩
theorem expRun_succ (ties : List TieD) (m : Nat) : expRun ties (m + 1) = (expF ties (ties.length + 1) [] m (expRun ties m)).2 := by
 unfold expRun
 rw [List.range_succ, List.foldl_append]; rfl
theorem getD_repl {n i : Nat} : (List.replicate n ([] : List KeyD)).getD i [] = [] := by
 rw [List.getD_eq_getElem?_getD, List.getElem?_replicate]
 split <;> rfl
theorem expRun_ok (ties : List TieD) : ∀ m, (expRun ties m).ok ties.length
 | 0 => ⟨by simp [expRun], fun x hx => by rw [List.eq_of_mem_replicate hx]; simp⟩
 | m + 1 => by rw [expRun_succ]; exact (expF_ok _ _ _ _ _ (expRun_ok ties m)).1
end Go.Fr
namespace Go.Fr
open Go.RowKit Go.Kx
def RulesD.midT (t : TieD) : Bool := decide (4 < t.keys.length ∧ t.keys.length ≤ 32)
def RulesD.few15 (r : RulesD) : Bool := (r.ties.all fun t => !RulesD.midT t) && (r.few && decide (r.ties.length ≤ 5 ∨ 16 < r.ties.length))
theorem RulesD.few_of15 {r : RulesD} (h : r.few15 = true) : r.few = true := by
 unfold RulesD.few15 at h
 rw [Bool.and_eq_true, Bool.and_eq_true] at h
 exact h.2.1
end Go.Fr
namespace Go.Proofs.YthldagplhklbnaaGreatDoor
open Go Go.RowKit Go.Kx Go.Fr
set_option maxHeartbeats 1000000 in
set_option maxRecDepth 100000 in
theorem few15_any (kk : Nat) (r : RulesD) : FnC Tryz.prog 7 [rul kk r] [] (fun p loc => p = exB r.few15 ∧ loc = []) := by
 have hfw := few14_any kk r
 unfold rul at hfw ⊢
 refine Zbe (i := 0) rfl (Zca (i := 4) (p := isl eTie r.ties) rfl Zbl) fun hty => ?_
 obtain ⟨hty, -⟩ := hty
 simp only [maxLen] at hty
 unfold RulesD.few15
 refine Zb7 Tryz.func7 rfl Tryz.ntmps7 rfl fun w0 F0 out => ?_
 (repeat' (first | (apply Zbh 1; refine Stop.out ?_) | refine Za8 ?_ | refine Za1 ?_ | refine Za6 ?_ | (apply Za9; (exact Za4 rfl); exact rfl) | (apply Zaj; exact rfl; (apply Zc9; refine Zbz rfl ?_; intro _))))
 rename_i b1
 refine ⟨Zbn (Zch (k := 0) (t := 1) rfl rfl) ?_⟩
 (repeat' (first | refine Za1 ?_ | refine Za6 ?_ | (apply Za9; (first | exact Za4 rfl); exact rfl) | refine Zaa ?_))
 refine Zbv (fun q : Nat => ([(1, fp (rulesV kk r)), (3, exI .i64 q)], [])) (fun q => q ≤ r.ties.length ∧ (r.ties.take q).all (fun t => !RulesD.midT t) = true) (fun q => r.ties.length - q) 0 ?_ ⟨Nat.zero_le _, rfl⟩ fun q hq => ?_
 · exact Zae (by repeat (first | exact Zai | refine Zad rfl ?_)) (List.nil_sublist _)
 obtain ⟨hq, hpre⟩ := hq
 by_cases hlt : q < r.ties.length
 · cases hm : RulesD.midT r.ties[q]
   · have hm2 := hm
     unfold RulesD.midT at hm2
     rw [decide_eq_false_iff_not] at hm2
     (repeat' (first | refine Za8 ?_ | refine Za1 ?_ | refine Za6 ?_ | (apply Za9; (first | exact Za3 rfl | exact Za4 rfl | exact Zas (b := true) rfl (fun _ => rfl) (fun e => by cases e) | exact Zas (b := false) rfl (fun e => by cases e) (fun _ => rfl) | (apply Za7; exact Zb1 rfl rfl) | (apply Zat; exact Zay rfl rfl rfl) | (apply Zah; first | exact Zau rfl rfl | exact Zcc rfl rfl | exact Zbf rfl rfl) | (apply Zak; exact Zar rfl rfl rfl) | (apply Zax; exact Zb3 rfl rfl)); exact rfl) | (refine Zbq rfl rfl rfl rfl rfl ?_) | (apply Zbt; exact rfl; exact rfl; exact rfl; (first | exact Za3 rfl | (apply Za7; exact Zb1 rfl rfl) | (apply Zat; exact Zay rfl rfl rfl) | (apply Zah; exact WT_leq rfl rfl) | (apply Zak; exact Zar rfl rfl rfl) | (apply Zax; exact Zb3 rfl rfl)); exact rfl) | refine Zaa ?_ | refine Zag ?_ | refine Zb8 rfl ?_ | (refine Zbm rfl rfl (fun hb => ?_) (fun hb => ?_) <;> (repeat (first | replace hb := Zam hb | replace hb := Zan hb)) <;> (try (exfalso; fail))) | (refine Zac rfl (fun hb => ?_) (fun hb => ?_) <;> (repeat (first | replace hb := Zam hb | replace hb := Zan hb)) <;> (try (exfalso; omega)))))
     all_goals (try (exfalso; omega))
     all_goals exact ⟨q + 1, ⟨by omega, all_take hlt hpre (by rw [hm]; rfl)⟩, by omega, Zae (by repeat (first | exact Zai | refine Zad rfl ?_)) (List.nil_sublist _)⟩
   · have hm2 := hm
     unfold RulesD.midT at hm2
     rw [decide_eq_true_iff] at hm2
     (repeat' (first | refine Za8 ?_ | refine Za1 ?_ | refine Za6 ?_ | (apply Za9; (first | exact Za3 rfl | exact Za4 rfl | exact Zas (b := true) rfl (fun _ => rfl) (fun e => by cases e) | (apply Za7; exact Zb1 rfl rfl) | (apply Zat; exact Zay rfl rfl rfl) | (apply Zah; first | exact Zau rfl rfl | exact Zcc rfl rfl) | (apply Zak; exact Zar rfl rfl rfl) | (apply Zax; exact Zb3 rfl rfl)); exact rfl) | (apply Zbt; exact rfl; exact rfl; exact rfl; (first | exact Za3 rfl | (apply Za7; exact Zb1 rfl rfl) | (apply Zat; exact Zay rfl rfl rfl) | (apply Zah; exact WT_leq rfl rfl) | (apply Zak; exact Zar rfl rfl rfl) | (apply Zax; exact Zb3 rfl rfl)); exact rfl) | refine Zaa ?_ | refine Zag ?_ | refine Zaq ?_ | (refine Zbm rfl rfl (fun hb => ?_) (fun hb => ?_) <;> (repeat (first | replace hb := Zam hb | replace hb := Zan hb)) <;> (try (exfalso; omega))) | (refine Zac rfl (fun hb => ?_) (fun hb => ?_) <;> (repeat (first | replace hb := Zam hb | replace hb := Zan hb)) <;> (try (exfalso; omega)))))
     all_goals (try (exfalso; omega))
     refine ⟨.inr rfl, ret1 rfl (.tmp rfl) (List.nil_sublist _) ⟨congrArg exB ?_, rfl⟩⟩
     rw [all_not hlt (by rw [hm]; rfl)]; rfl
 · have hk9 : q = r.ties.length := by omega
   subst hk9
   rw [List.take_length] at hpre
   rw [hpre, Bool.true_and]
   clear hpre
   generalize r.few = fw at *
   (repeat' (first | refine Za8 ?_ | refine Za1 ?_ | refine Za6 ?_ | (apply Za9; (first | exact Za3 rfl | exact Za4 rfl | exact Zas (b := true) rfl (fun _ => rfl) (fun e => by cases e) | exact Zas (b := false) rfl (fun e => by cases e) (fun _ => rfl) | (apply Za7; first | exact Zb1 rfl rfl | exact Zb2 rfl rfl) | (apply Zat; exact Zay rfl rfl rfl) | (apply Zah; exact Zau rfl rfl) | (apply Zax; exact Zb3 rfl rfl)); exact rfl) | (refine Zbq rfl rfl rfl rfl rfl ?_) | (refine WPL_offu rfl rfl rfl rfl ?_) | (apply Zbt; exact rfl; exact rfl; exact rfl; (first | exact Za3 rfl | exact Zas (b := true) rfl (fun _ => rfl) (fun e => by cases e) | exact Zas (b := false) rfl (fun e => by cases e) (fun _ => rfl) | (apply Za7; exact Zb1 rfl rfl) | (apply Zat; exact Zay rfl rfl rfl) | (apply Zah; first | exact Zcc rfl rfl | exact WT_leq rfl rfl) | (apply Zax; exact Zb3 rfl rfl)); exact rfl) | refine Zaq ?_ | refine Zbk ?_ | (apply Zaj; exact rfl; (apply Zao; (refine Zaw Tryz.func17 rfl hfw rfl ?_; rintro _ _ ⟨rfl, rfl⟩))) | (refine Zbm rfl rfl (fun hb => ?_) (fun hb => ?_) <;> (repeat (first | replace hb := Zam hb | replace hb := Zan hb)) <;> (try (exfalso; fail))) | (refine Zac rfl (fun hb => ?_) (fun hb => ?_) <;> (repeat (first | replace hb := Zam hb | replace hb := Zan hb)) <;> (try (exfalso; omega)))))
   all_goals (try (exfalso; omega))
   all_goals (refine ⟨.inr rfl, ret1 rfl (.tmp rfl) (List.nil_sublist _) ⟨congrArg exB ?_, rfl⟩⟩)
   all_goals (rw [Bool.eq_iff_iff]; simp_all; try omega)
end Go.Proofs.YthldagplhklbnaaGreatDoor
namespace Go.Fr
open Go.RowKit Go.Kx
structure RulesD.Exp (r : RulesD) (L : List (List KeyD)) : Prop where
 len : L.length = r.ties.length
 eq : ∀ i (h : i < r.ties.length) (h2 : i < L.length), L[i] = r.ties[i].keys.flatMap (expd L)
 ne : ∀ i (h2 : i < L.length), L[i] ≠ []
 short : ∀ i (h2 : i < L.length), L[i].length ≤ 32
 plain : ∀ i (h2 : i < L.length), ∀ k ∈ L[i], k.kind ≠ 5
end Go.Fr
