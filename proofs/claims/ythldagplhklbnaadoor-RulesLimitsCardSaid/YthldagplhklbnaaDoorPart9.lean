/- The expansion of all tie rules, told whole: a circle is met exactly if the tie rules have no ranks; else each list is the full one, cut at 33. No program in sight. -/
import Derived.Test.YthldagplhklbnaaDoorPart7
namespace Go.Fr
open Go.RowKit Go.Kx
/-- From each tie rule one comes to those of a lower rank alone. -/
def Ranked (ties : List TieD) (rk : Nat → Nat) : Prop := ∀ i, i < ties.length → ∀ k ∈ keysAt ties i, k.kind = 5 → rk k.n.toNat < rk i
def Acyc (ties : List TieD) : Prop := ∃ rk, Ranked ties rk
def exd (F : Nat → List KeyD) (k : KeyD) : List KeyD := if k.kind = 5 then F k.n.toNat else [k]
/-- The full expansion of each tie rule. -/
def Full (ties : List TieD) (F : Nat → List KeyD) : Prop := ∀ i, i < ties.length → F i = (keysAt ties i).flatMap (exd F)
/-- All references lead to tie rules, and no tie rule is empty. -/
def Hk (ties : List TieD) : Prop := ∀ i, i < ties.length → keysAt ties i ≠ [] ∧ linkK ties.length (keysAt ties i)
def fullF (ties : List TieD) : Nat → Nat → List KeyD
  | 0, _ => []
  | f + 1, i => (keysAt ties i).flatMap (exd (fullF ties f))
theorem flatMap_congr' {α β : Type} {f g : α → List β} : ∀ {l : List α}, (∀ x ∈ l, f x = g x) → l.flatMap f = l.flatMap g
  | [], _ => rfl
  | a :: l, h => by rw [List.flatMap_cons, List.flatMap_cons, h a List.mem_cons_self, flatMap_congr' fun x hx => h x (List.mem_cons_of_mem _ hx)]
theorem fullF_stable {ties : List TieD} {rk : Nat → Nat} (hk : Hk ties) (hr : Ranked ties rk) : ∀ (f g i : Nat), i < ties.length → rk i < f → rk i < g → fullF ties f i = fullF ties g i
  | 0, _, _, _, h, _ => absurd h (Nat.not_lt_zero _)
  | _ + 1, 0, _, _, _, h => absurd h (Nat.not_lt_zero _)
  | f + 1, g + 1, i, hi, h1, h2 => by
    unfold fullF
    refine flatMap_congr' fun k hk5 => ?_
    unfold exd
    split
    · rename_i h5
      have := hr i hi k hk5 h5
      exact fullF_stable hk hr f g _ ((hk i hi).2 k hk5 h5) (by omega) (by omega)
    · rfl
theorem full_ex {ties : List TieD} {rk : Nat → Nat} (hk : Hk ties) (hr : Ranked ties rk) : ∃ F, Full ties F := by
  refine ⟨fun i => fullF ties (rk i + 1) i, fun i hi => ?_⟩
  show (keysAt ties i).flatMap (exd (fullF ties (rk i))) = _
  refine flatMap_congr' fun k hk5 => ?_
  unfold exd
  split
  · rename_i h5
    exact fullF_stable hk hr _ _ _ ((hk i hi).2 k hk5 h5) (hr i hi k hk5 h5) (by omega)
  · rfl
theorem rank_ind {ties : List TieD} {rk : Nat → Nat} (hk : Hk ties) (hr : Ranked ties rk) {P : Nat → Prop} (h : ∀ i, i < ties.length → (∀ k ∈ keysAt ties i, k.kind = 5 → P k.n.toNat) → P i) : ∀ i, i < ties.length → P i := by
  have key : ∀ m i, rk i < m → i < ties.length → P i := by
    intro m
    induction m with
    | zero => intro i h _; omega
    | succ m ih => exact fun i hm hi => h i hi fun k hk5 h5 => ih _ (by have := hr i hi k hk5 h5; omega) ((hk i hi).2 k hk5 h5)
  exact fun i hi => key (rk i + 1) i (by omega) hi
theorem full_ne {ties : List TieD} {rk : Nat → Nat} {F : Nat → List KeyD} (hk : Hk ties) (hr : Ranked ties rk) (hF : Full ties F) : ∀ i, i < ties.length → F i ≠ [] :=
  rank_ind hk hr fun i hi h => by
    rw [hF i hi]
    refine flatMap_ne (hk i hi).1 fun x hx => ?_
    unfold exd
    split
    · rename_i h5; exact h x hx h5
    · simp
theorem full_uniq {ties : List TieD} {rk : Nat → Nat} {F G : Nat → List KeyD} (hk : Hk ties) (hr : Ranked ties rk) (hF : Full ties F) (hG : Full ties G) : ∀ i, i < ties.length → F i = G i :=
  rank_ind hk hr fun i hi h => by
    rw [hF i hi, hG i hi]
    refine flatMap_congr' fun x hx => ?_
    unfold exd
    split
    · rename_i h5; exact h x hx h5
    · rfl
/-- Lists that are cut, put together and cut again. -/
def exC (F : Nat → List KeyD) (k : KeyD) : List KeyD := if k.kind = 5 then (F k.n.toNat).take 33 else [k]
theorem take_app {α : Type} {a b c : List α} (h : ∀ m, m ≤ 33 → b.take m = c.take m) : ∀ m, m ≤ 33 → (a.take 33 ++ b).take m = (a ++ c).take m := by
  intro m hm
  rw [List.take_append, List.take_append, List.take_take, Nat.min_eq_left hm, List.length_take]
  by_cases hl : a.length ≤ 33
  · rw [Nat.min_eq_right hl, h _ (by omega)]
  · rw [Nat.min_eq_left (by omega), show m - 33 = 0 by omega, show m - a.length = 0 by omega]; rfl
theorem exC_take (F : Nat → List KeyD) : ∀ (l : List KeyD) (m : Nat), m ≤ 33 → (l.flatMap (exC F)).take m = (l.flatMap (exd F)).take m
  | [], _, _ => rfl
  | k :: l, m, hm => by
    rw [List.flatMap_cons, List.flatMap_cons]
    unfold exC exd
    split
    · exact take_app (exC_take F l) m hm
    · exact take_app (a := [k]) (exC_take F l) m hm
theorem exC_long (F : Nat → List KeyD) (l : List KeyD) : 32 < (l.flatMap (exC F)).length ↔ 32 < (l.flatMap (exd F)).length := by
  have := congrArg List.length (exC_take F l 33 (Nat.le_refl _))
  rw [List.length_take, List.length_take] at this
  omega
/-- What holds while the full lists are found. -/
structure XS.inv (ties : List TieD) (F : Nat → List KeyD) (s : XS) : Prop where
  ok : s.ok ties.length
  c : s.circle = false
  at_ : ∀ j, j < ties.length → s.l.getD j [] ≠ [] → s.l.getD j [] = (F j).take 33 ∧ (32 < (F j).length → s.long = true)
  l : s.long = true → ∃ j, j < ties.length ∧ 32 < (F j).length
def XS.more (s s' : XS) : Prop := (∀ j, s.l.getD j [] ≠ [] → s'.l.getD j [] ≠ []) ∧ (s.long = true → s'.long = true)
theorem fold_inv {ties : List TieD} {F : Nat → List KeyD} {g : Nat → XS → List KeyD × XS} : ∀ (l : List KeyD) (a : List KeyD × XS), linkK ties.length l →
    (∀ k ∈ l, k.kind = 5 → ∀ s : XS, s.inv ties F → (g k.n.toNat s).2.inv ties F ∧ s.more (g k.n.toNat s).2 ∧ (g k.n.toNat s).1 = (F k.n.toNat).take 33) →
    a.2.inv ties F → (l.foldl (expStep g) a).2.inv ties F ∧ a.2.more (l.foldl (expStep g) a).2 ∧ (l.foldl (expStep g) a).1 = a.1 ++ l.flatMap (exC F)
  | [], a, _, _, h => ⟨h, ⟨fun _ h => h, fun h => h⟩, by simp⟩
  | k :: l, a, hl, hg, h => by
    have hll : linkK ties.length l := fun x hx => hl x (List.mem_cons_of_mem _ hx)
    have hgl := fun x hx => hg x (List.mem_cons_of_mem _ hx)
    rw [List.foldl_cons, List.flatMap_cons]
    by_cases h5 : k.kind = 5
    · have he : expStep g a k = (a.1 ++ (g k.n.toNat a.2).1, (g k.n.toNat a.2).2) := by unfold expStep; rw [if_pos h5]
      obtain ⟨g1, g2, g3⟩ := hg k List.mem_cons_self h5 a.2 h
      rw [he]
      obtain ⟨r1, r2, r3⟩ := fold_inv l (a.1 ++ (g k.n.toNat a.2).1, (g k.n.toNat a.2).2) hll hgl g1
      refine ⟨r1, ⟨fun j hj => r2.1 j (g2.1 j hj), fun e => r2.2 (g2.2 e)⟩, ?_⟩
      rw [r3, g3]
      unfold exC; rw [if_pos h5]; simp
    · have he : expStep g a k = (a.1 ++ [k], a.2) := by unfold expStep; rw [if_neg h5]
      rw [he]
      obtain ⟨r1, r2, r3⟩ := fold_inv l (a.1 ++ [k], a.2) hll hgl h
      refine ⟨r1, r2, ?_⟩
      rw [r3]
      have : exC F k = [k] := by unfold exC; rw [if_neg h5]
      rw [this]; simp
theorem expF_inv {ties : List TieD} {rk : Nat → Nat} {F : Nat → List KeyD} (hk : Hk ties) (hr : Ranked ties rk) (hF : Full ties F) : ∀ (f : Nat) (opn : List Nat) (i : Nat) (s : XS), opn.Nodup → (∀ x ∈ opn, x < ties.length) → (∀ x ∈ opn, rk i < rk x) → ties.length + 1 ≤ f + opn.length → s.inv ties F → i < ties.length →
    (expF ties f opn i s).2.inv ties F ∧ s.more (expF ties f opn i s).2 ∧ (expF ties f opn i s).1 = (F i).take 33 ∧ (expF ties f opn i s).2.l.getD i [] ≠ []
  | 0, opn, i, s, hnd, hlt, _, hf, _, _ => absurd (pigeon _ _ hnd hlt) (by omega)
  | f + 1, opn, i, s, hnd, hlt, hrk, hf, hs, hi => by
    have ho : i ∉ opn := fun h => absurd (hrk i h) (Nat.lt_irrefl _)
    unfold expF
    rw [if_neg ho]
    by_cases hlen : 0 < (s.l.getD i []).length
    · rw [if_pos hlen]
      have hne : s.l.getD i [] ≠ [] := fun e => by rw [e] at hlen; cases hlen
      exact ⟨hs, ⟨fun _ h => h, fun h => h⟩, (hs.at_ i hi hne).1, hne⟩
    · rw [if_neg hlen]
      have hnd2 : (opn ++ [i]).Nodup := List.nodup_append.2 ⟨hnd, by simp, fun a ha b hb => by simp at hb; subst hb; exact fun e => ho (e ▸ ha)⟩
      have hlt2 : ∀ x ∈ opn ++ [i], x < ties.length := fun x hx => by
        rcases List.mem_append.1 hx with h | h
        · exact hlt x h
        · rw [List.mem_singleton.1 h]; exact hi
      have hfold := fold_inv (ties := ties) (F := F) (g := fun j s => expF ties f (opn ++ [i]) j s) (keysAt ties i) ([], s) (hk i hi).2
        (fun k hk5 h5 s hs => by
          have hki := hr i hi k hk5 h5
          obtain ⟨q1, q2, q3, _⟩ := expF_inv hk hr hF f (opn ++ [i]) k.n.toNat s hnd2 hlt2 (fun x hx => by
            rcases List.mem_append.1 hx with h | h
            · have := hrk x h; omega
            · rw [List.mem_singleton.1 h]; exact hki) (by simp; omega) hs ((hk i hi).2 k hk5 h5)
          exact ⟨q1, q2, q3⟩) hs
      generalize hR : (keysAt ties i).foldl (expStep fun j s => expF ties f (opn ++ [i]) j s) ([], s) = R at hfold ⊢
      obtain ⟨acc, s1⟩ := R
      obtain ⟨r1, r2, r3⟩ := hfold
      simp only [List.nil_append] at r1 r2 r3
      have hcut : acc.take 33 = (F i).take 33 := by rw [r3, hF i hi]; exact exC_take F _ 33 (Nat.le_refl _)
      have hlg : 32 < acc.length ↔ 32 < (F i).length := by rw [r3, hF i hi]; exact exC_long F _
      have hsl1 : i < s1.l.length := by rw [r1.ok.1]; exact hi
      have hne := full_ne hk hr hF i hi
      have hnet : (F i).take 33 ≠ [] := fun e => hne (by cases h : F i with | nil => rfl | cons a l => rw [h] at e; simp at e)
      unfold expDone
      refine ⟨⟨(expDone_ok (i := i) (a := (acc, s1)) r1.ok).1, r1.c, fun j hj hjn => ?_, fun e => ?_⟩, ⟨fun j hj => ?_, fun e => ?_⟩, hcut, ?_⟩
      · show (s1.l.set i (acc.take 33)).getD j [] = _ ∧ (_ → (s1.long || decide (32 < acc.length)) = true)
        by_cases hij : i = j
        · subst hij
          rw [getD_set_self hsl1]
          exact ⟨hcut, fun h => by rw [decide_eq_true (hlg.2 h)]; simp⟩
        · have hj' : s1.l.getD j [] ≠ [] := by
            have : (s1.l.set i (acc.take 33)).getD j [] ≠ [] := hjn
            rwa [getD_set_ne hij] at this
          rw [getD_set_ne hij]
          obtain ⟨q1, q2⟩ := r1.at_ j hj hj'
          exact ⟨q1, fun h => by rw [q2 h]; rfl⟩
      · have e' : (s1.long || decide (32 < acc.length)) = true := e
        rw [Bool.or_eq_true, decide_eq_true_iff] at e'
        rcases e' with h | h
        · exact r1.l h
        · exact ⟨i, hi, hlg.1 h⟩
      · show (s1.l.set i (acc.take 33)).getD j [] ≠ []
        by_cases hij : i = j
        · subst hij; rw [getD_set_self hsl1, hcut]; exact hnet
        · rw [getD_set_ne hij]; exact r2.1 j hj
      · show (s1.long || decide (32 < acc.length)) = true
        rw [r2.2 e]; rfl
      · show (s1.l.set i (acc.take 33)).getD i [] ≠ []
        rw [getD_set_self hsl1, hcut]; exact hnet
theorem expRun_inv {ties : List TieD} {rk : Nat → Nat} {F : Nat → List KeyD} (hk : Hk ties) (hr : Ranked ties rk) (hF : Full ties F) : ∀ m, m ≤ ties.length → (expRun ties m).inv ties F ∧ ∀ i, i < m → (expRun ties m).l.getD i [] ≠ []
  | 0, _ => ⟨⟨expRun_ok ties 0, rfl, fun _ _ h => absurd getD_repl h, fun h => by cases h⟩, fun i hi => by omega⟩
  | m + 1, hm => by
    obtain ⟨h1, h2⟩ := expRun_inv hk hr hF m (by omega)
    rw [expRun_succ]
    obtain ⟨g1, g2, _, g4⟩ := expF_inv hk hr hF (ties.length + 1) [] m (expRun ties m) List.nodup_nil (fun x hx => by cases hx) (fun x hx => by cases hx) (by simp) h1 (by omega)
    refine ⟨g1, fun i hi => ?_⟩
    by_cases him : i = m
    · subst him; exact g4
    · exact g2.1 i (h2 i (by omega))
/-- With ranks no circle is met, and what is found is cut out of the full lists. -/
theorem expansionF_acyc {ties : List TieD} {rk : Nat → Nat} {F : Nat → List KeyD} (hk : Hk ties) (hr : Ranked ties rk) (hF : Full ties F) :
    ((∃ i, i < ties.length ∧ 32 < (F i).length) → expansionF ties = ([], 2)) ∧ ((∀ i, i < ties.length → (F i).length ≤ 32) → expansionF ties = ((List.range ties.length).map F, 0)) := by
  obtain ⟨h1, h2⟩ := expRun_inv hk hr hF ties.length (Nat.le_refl _)
  have he : expAll ties = expRun ties ties.length := rfl
  unfold expansionF
  rw [he, h1.c]
  constructor
  · rintro ⟨i, hi, hl⟩
    rw [if_neg (by simp), if_pos ((h1.at_ i hi (h2 i hi)).2 hl)]
  · intro h
    have : ¬ (expRun ties ties.length).long = true := fun e => by
      obtain ⟨j, hj, hl⟩ := h1.l e
      have := h j hj
      omega
    rw [if_neg (by simp), if_neg this]
    have hl : (expRun ties ties.length).l = (List.range ties.length).map F := by
      refine List.ext_getElem (by rw [h1.ok.1]; simp) fun i hi hi2 => ?_
      have hi3 : i < ties.length := by rw [h1.ok.1] at hi; exact hi
      have := (h1.at_ i hi3 (h2 i hi3)).1
      rw [List.getD_eq_getElem?_getD, List.getElem?_eq_getElem hi] at this
      rw [List.getElem_map, List.getElem_range]
      have h3 : (expRun ties ties.length).l[i] = (F i).take 33 := this
      rw [h3, List.take_of_length_le (by have := h i hi3; omega)]
    rw [hl]
/-- What is done has ranks. -/
def XS.goodR (ties : List TieD) (rk : Nat → Nat) (s : XS) : Prop := ∀ i, s.l.getD i [] ≠ [] → ∀ k ∈ keysAt ties i, k.kind = 5 → s.l.getD k.n.toNat [] ≠ [] ∧ rk k.n.toNat < rk i
structure XS.kept (opn : List Nat) (s s' : XS) : Prop where
  keep : ∀ j, s.l.getD j [] ≠ [] → s'.l.getD j [] ≠ []
  opn : ∀ j ∈ opn, s'.l.getD j [] = s.l.getD j []
theorem fold_goodR {ties : List TieD} {opn : List Nat} {g : Nat → XS → List KeyD × XS} (hm : ∀ (j : Nat) (s : XS), s.mono (g j s).2) (hok : ∀ (j : Nat) (s : XS), s.ok ties.length → (g j s).2.ok ties.length)
    (hg : ∀ (j : Nat) (s : XS) (rk : Nat → Nat), s.ok ties.length → s.goodR ties rk → j < ties.length → (g j s).2.circle = false → (∃ rk', (g j s).2.goodR ties rk') ∧ s.kept opn (g j s).2 ∧ (g j s).2.l.getD j [] ≠ [] ∧ (g j s).1 ≠ []) :
    ∀ (l : List KeyD) (a : List KeyD × XS) (rk : Nat → Nat), linkK ties.length l → a.2.ok ties.length → a.2.goodR ties rk → (l.foldl (expStep g) a).2.circle = false → (∃ rk', (l.foldl (expStep g) a).2.goodR ties rk') ∧ a.2.kept opn (l.foldl (expStep g) a).2 ∧ (∀ k ∈ l, k.kind = 5 → (l.foldl (expStep g) a).2.l.getD k.n.toNat [] ≠ []) ∧ ((a.1 ≠ [] ∨ l ≠ []) → (l.foldl (expStep g) a).1 ≠ [])
  | [], a, rk, _, _, hgd, _ => ⟨⟨rk, hgd⟩, ⟨fun _ h => h, fun _ _ => rfl⟩, (fun k hk => by cases hk), fun h => h.resolve_right (fun e => e rfl)⟩
  | k :: l, a, rk, hl, ha, hgd, hc => by
    have hmm : (expStep g a k).2.mono (l.foldl (expStep g) (expStep g a k)).2 := fold_mono hm l _
    have hc1 := hmm.offc hc
    have hll : linkK ties.length l := fun x hx => hl x (List.mem_cons_of_mem _ hx)
    rw [List.foldl_cons]
    by_cases h5 : k.kind = 5
    · have he : expStep g a k = (a.1 ++ (g k.n.toNat a.2).1, (g k.n.toNat a.2).2) := by unfold expStep; rw [if_pos h5]
      rw [List.foldl_cons, he] at hc
      rw [he] at hc1
      rw [he]
      obtain ⟨⟨rk1, g1⟩, g2, g3, g4⟩ := hg k.n.toNat a.2 rk ha hgd (hl k List.mem_cons_self h5) hc1
      obtain ⟨r1, r2, r3, r4⟩ := fold_goodR hm hok hg l (a.1 ++ (g k.n.toNat a.2).1, (g k.n.toNat a.2).2) rk1 hll (hok _ _ ha) g1 hc
      refine ⟨r1, ⟨fun j hj => r2.keep j (g2.keep j hj), fun j hj => (r2.opn j hj).trans (g2.opn j hj)⟩, fun x hx hx5 => ?_, fun _ => r4 (.inl ?_)⟩
      · rcases List.mem_cons.1 hx with rfl | hx
        · exact r2.keep _ g3
        · exact r3 x hx hx5
      · exact fun e => g4 (List.append_eq_nil_iff.1 e).2
    · have he : expStep g a k = (a.1 ++ [k], a.2) := by unfold expStep; rw [if_neg h5]
      obtain ⟨r1, r2, r3, r4⟩ := fold_goodR hm hok hg l (a.1 ++ [k], a.2) rk hll ha hgd (by rw [List.foldl_cons, he] at hc; exact hc)
      rw [he]
      refine ⟨r1, r2, fun x hx hx5 => ?_, fun _ => r4 (.inl ?_)⟩
      · rcases List.mem_cons.1 hx with rfl | hx
        · exact absurd hx5 h5
        · exact r3 x hx hx5
      · simp
theorem rk_top (rk : Nat → Nat) : ∀ n, ∃ M, ∀ j, j < n → rk j < M
  | 0 => ⟨0, fun j hj => absurd hj (Nat.not_lt_zero _)⟩
  | n + 1 => by
    obtain ⟨M, h⟩ := rk_top rk n
    refine ⟨M + rk n + 1, fun j hj => ?_⟩
    by_cases hjn : j = n
    · subst hjn; omega
    · have := h j (by omega); omega
theorem expF_goodR {ties : List TieD} (hk : Hk ties) : ∀ (f : Nat) (opn : List Nat) (i : Nat) (s : XS) (rk : Nat → Nat), opn.Nodup → (∀ x ∈ opn, x < ties.length) → ties.length + 1 ≤ f + opn.length → s.ok ties.length → s.goodR ties rk → i < ties.length → (expF ties f opn i s).2.circle = false → (∃ rk', (expF ties f opn i s).2.goodR ties rk') ∧ s.kept opn (expF ties f opn i s).2 ∧ (expF ties f opn i s).2.l.getD i [] ≠ [] ∧ (expF ties f opn i s).1 ≠ []
  | 0, opn, i, s, _, hnd, hlt, hf, _, _, _, _ => absurd (pigeon _ _ hnd hlt) (by omega)
  | f + 1, opn, i, s, rk, hnd, hlt, hf, hs, hgd, hi, hc => by
    unfold expF at hc ⊢
    by_cases ho : i ∈ opn
    · rw [if_pos ho] at hc; cases hc
    · rw [if_neg ho] at hc ⊢
      by_cases hlen : 0 < (s.l.getD i []).length
      · rw [if_pos hlen]
        have hne : s.l.getD i [] ≠ [] := fun e => by rw [e] at hlen; cases hlen
        exact ⟨⟨rk, hgd⟩, ⟨fun _ h => h, fun _ _ => rfl⟩, hne, hne⟩
      · rw [if_neg hlen] at hc ⊢
        have hnil : s.l.getD i [] = [] := List.eq_nil_of_length_eq_zero (by omega)
        have hnd2 : (opn ++ [i]).Nodup := List.nodup_append.2 ⟨hnd, by simp, fun a ha b hb => by simp at hb; subst hb; exact fun e => ho (e ▸ ha)⟩
        have hlt2 : ∀ x ∈ opn ++ [i], x < ties.length := fun x hx => by
          rcases List.mem_append.1 hx with h | h
          · exact hlt x h
          · rw [List.mem_singleton.1 h]; exact hi
        have hfold := fold_goodR (ties := ties) (opn := opn ++ [i]) (g := fun j s => expF ties f (opn ++ [i]) j s) (fun j s => expF_mono ties f _ j s) (fun j s h => (expF_ok ties f _ j s h).1)
          (fun j s rk h1 h2 h3 h4 => expF_goodR hk f (opn ++ [i]) j s rk hnd2 hlt2 (by simp; omega) h1 h2 h3 h4) (keysAt ties i) ([], s) rk (hk i hi).2 hs hgd
        have hfok := (fold_ok (n := ties.length) (g := fun j s => expF ties f (opn ++ [i]) j s) (fun j s h => expF_ok ties f _ j s h) (keysAt ties i) ([], s) hs).1
        generalize hR : (keysAt ties i).foldl (expStep fun j s => expF ties f (opn ++ [i]) j s) ([], s) = R at hc hfold hfok ⊢
        obtain ⟨acc, s1⟩ := R
        obtain ⟨⟨rk1, r1⟩, r2, r3, r4⟩ := hfold hc
        have hacc : acc ≠ [] := r4 (.inr (hk i hi).1)
        have hsl1 : i < s1.l.length := by have := hfok.1; simp only at this; omega
        have hi1 : s1.l.getD i [] = [] := by
          have := r2.opn i (by simp)
          rw [show s1.l.getD i [] = s.l.getD i [] from this]; exact hnil
        have hne : ∀ j, s1.l.getD j [] ≠ [] → i ≠ j := fun j hj e => hj (e ▸ hi1)
        have hcut : acc.take 33 ≠ [] := fun e => hacc (by cases acc with | nil => rfl | cons a l => simp at e)
        obtain ⟨M, hM⟩ := rk_top rk1 ties.length
        have hlk : ∀ j, ∀ k ∈ keysAt ties j, k.kind = 5 → k.n.toNat < ties.length := fun j k hkj h5 => by
          by_cases hj : j < ties.length
          · exact (hk j hj).2 k hkj h5
          · unfold keysAt at hkj
            rw [List.getElem?_eq_none (by omega)] at hkj; cases hkj
        unfold expDone
        refine ⟨⟨fun j => if j = i then M else rk1 j, fun j hj k hkj h5 => ?_⟩, ⟨fun j hj => ?_, fun j hj => ?_⟩, ?_, hcut⟩
        · show (s1.l.set i (acc.take 33)).getD k.n.toNat [] ≠ [] ∧ (if k.n.toNat = i then M else rk1 k.n.toNat) < if j = i then M else rk1 j
          by_cases hij : i = j
          · subst hij
            have h6 : s1.l.getD k.n.toNat [] ≠ [] := r3 k hkj h5
            have h7 := hne _ h6
            rw [getD_set_ne h7, if_neg (Ne.symm h7), if_pos rfl]
            exact ⟨h6, hM _ (hlk _ k hkj h5)⟩
          · have hj' : s1.l.getD j [] ≠ [] := by
              have : (s1.l.set i (acc.take 33)).getD j [] ≠ [] := hj
              rwa [getD_set_ne hij] at this
            obtain ⟨q1, q2⟩ := r1 j hj' k hkj h5
            have h7 := hne _ q1
            rw [getD_set_ne h7, if_neg (Ne.symm h7), if_neg (Ne.symm hij)]
            exact ⟨q1, q2⟩
        · show (s1.l.set i (acc.take 33)).getD j [] ≠ []
          by_cases hij : i = j
          · subst hij; rw [getD_set_self hsl1]; exact hcut
          · rw [getD_set_ne hij]; exact r2.keep j hj
        · show (s1.l.set i (acc.take 33)).getD j [] = _
          have hij : i ≠ j := fun e => ho (e ▸ hj)
          rw [getD_set_ne hij]; exact r2.opn j (List.mem_append_left _ hj)
        · show (s1.l.set i (acc.take 33)).getD i [] ≠ []
          rw [getD_set_self hsl1]; exact hcut
theorem expRun_goodR {ties : List TieD} (hk : Hk ties) : ∀ m, m ≤ ties.length → (expRun ties m).circle = false → (∃ rk, (expRun ties m).goodR ties rk) ∧ ∀ i, i < m → (expRun ties m).l.getD i [] ≠ []
  | 0, _, _ => ⟨⟨fun _ => 0, fun i hi => absurd getD_repl hi⟩, fun i hi => by omega⟩
  | m + 1, hm, hc => by
    rw [expRun_succ] at hc ⊢
    have hmo := expF_mono ties (ties.length + 1) [] m (expRun ties m)
    obtain ⟨⟨rk, h1⟩, h2⟩ := expRun_goodR hk m (by omega) (hmo.offc hc)
    obtain ⟨g1, g2, g3, _⟩ := expF_goodR hk (ties.length + 1) [] m (expRun ties m) rk List.nodup_nil (fun x hx => by cases hx) (by simp) (expRun_ok ties m) h1 (by omega) hc
    refine ⟨g1, fun i hi => ?_⟩
    by_cases him : i = m
    · subst him; exact g3
    · exact g2.keep i (h2 i (by omega))
/-- Without ranks a circle is met. -/
theorem expansionF_circle {ties : List TieD} (hk : Hk ties) (h : ¬ Acyc ties) : expansionF ties = ([], 151) := by
  have he : expAll ties = expRun ties ties.length := rfl
  unfold expansionF
  rw [he]
  by_cases hc : (expRun ties ties.length).circle = true
  · rw [if_pos hc]
  · obtain ⟨⟨rk, h1⟩, h2⟩ := expRun_goodR hk ties.length (Nat.le_refl _) (by simpa using hc)
    exact absurd ⟨rk, fun i hi k hkk h5 => (h1 i (h2 i hi) k hkk h5).2⟩ h
/-- Ranks below the number of tie rules. -/
theorem filter_lt {α : Type} {p q : α → Bool} {j : α} : ∀ {l : List α}, (∀ x ∈ l, p x = true → q x = true) → j ∈ l → p j = false → q j = true → (l.filter p).length < (l.filter q).length
  | [], _, h, _, _ => by cases h
  | a :: l, h, hj, hp, hq => by
    have hle : ∀ l : List α, (∀ x ∈ l, p x = true → q x = true) → (l.filter p).length ≤ (l.filter q).length := by
      intro l
      induction l with
      | nil => intro _; exact Nat.le_refl _
      | cons b l ih =>
        intro h
        have h1 := ih fun x hx => h x (List.mem_cons_of_mem _ hx)
        have h2 := h b List.mem_cons_self
        rw [List.filter_cons, List.filter_cons]
        cases hb : p b
        · cases q b <;> simp <;> omega
        · rw [h2 hb]; simp; omega
    have hl := fun x hx => h x (List.mem_cons_of_mem _ hx)
    rw [List.filter_cons, List.filter_cons]
    rcases List.mem_cons.1 hj with rfl | hj
    · rw [hp, hq]
      have := hle l hl
      simp; omega
    · have h1 := filter_lt hl hj hp hq
      have h2 := h a List.mem_cons_self
      cases hb : p a
      · cases q a <;> simp <;> omega
      · rw [h2 hb]; simp; omega
theorem acyc_low {ties : List TieD} (hk : Hk ties) (h : Acyc ties) : ∃ rk, Ranked ties rk ∧ ∀ i, i < ties.length → rk i < ties.length := by
  obtain ⟨rk, hr⟩ := h
  refine ⟨fun i => ((List.range ties.length).filter fun j => decide (rk j < rk i)).length, fun i hi k hkk h5 => ?_, fun i hi => ?_⟩
  · have h1 := hr i hi k hkk h5
    refine filter_lt (j := k.n.toNat) (fun x _ hx => ?_) (List.mem_range.2 ((hk i hi).2 k hkk h5)) (by simp) (by simpa using h1)
    have := of_decide_eq_true hx
    exact decide_eq_true (by omega)
  · have h1 := filter_lt (p := fun j => decide (rk j < rk i)) (q := fun _ => true) (j := i) (l := List.range ties.length) (fun _ _ _ => rfl) (List.mem_range.2 hi) (by simp) rfl
    rw [show (List.range ties.length).filter (fun _ => true) = List.range ties.length from List.filter_eq_self.2 fun _ _ => rfl, List.length_range] at h1
    exact h1
end Go.Fr

/- RulesFewer: the plain law: what becomes of sound rules without their last tie rule. No program in sight. -/
namespace Go.Fr
open Go.RowKit Go.Kx
theorem indexF_take {l : List (List UInt8)} {s : List UInt8} {m : Nat} : indexF (l.take m) s = if indexF l s < m then indexF l s else -1 := by
  by_cases h : s ∈ l
  · obtain ⟨i, hi, e1, e2, e3⟩ := indexF_lt h
    rw [e1]
    by_cases him : i < m
    · rw [if_pos (by omega)]
      refine indexF_hit (by rw [List.length_take]; omega) (fun j hj => ?_) ?_
      · rw [List.getElem_take]; exact e3 j hj
      · rw [List.getElem_take]; exact e2
    · rw [if_neg (by omega)]
      refine indexF_miss fun j hj => ?_
      rw [List.length_take] at hj
      rw [List.getElem_take]; exact e3 j (by omega)
  · have h1 : ¬ 0 ≤ indexF l s := fun e => h ((indexF_nonneg l s).1 e)
    have h2 := indexF_ge l s
    have h3 : ¬ 0 ≤ indexF (l.take m) s := fun e => h (List.mem_of_mem_take ((indexF_nonneg _ s).1 e))
    have h4 := indexF_ge (l.take m) s
    split <;> omega
namespace RulesD
def namedB (fr : List UInt8 → Bool) (r : RulesD) : Bool := fr r.name && (r.n0.all fr && (r.n1.all fr && (r.n2.all fr && r.n3.all fr)))
theorem check_zero {fr : List UInt8 → Bool} {r : RulesD} : r.check fr = 0 ↔ r.large = false ∧ r.namedB fr = true ∧ r.once = true ∧ r.allOk = true ∧ r.resolved = r := by
  unfold check resolve
  rw [← namedB]
  cases h1 : r.large
  · cases h2 : r.namedB fr
    · simp
    · cases h3 : r.once
      · simp
      · cases h4 : r.allOk
        · simp
        · simp only [Bool.not_true, if_false, Bool.false_eq_true, ne_eq, not_true_eq_false, true_and]
          split <;> simp_all
  · simp
theorem check_lost {fr : List UInt8 → Bool} {r : RulesD} (h1 : r.large = false) (h2 : r.namedB fr = true) (h3 : r.once = true) (h4 : r.allOk = false) : r.check fr = 140 := by
  unfold check resolve
  rw [← namedB, h1, h2, h3, h4]; simp
/-- Without the tie rules from the m-th on. -/
def cut (r : RulesD) (m : Nat) : RulesD := { r with ties := r.ties.take m }
theorem cut_n2 (r : RulesD) (m : Nat) : (r.cut m).n2 = r.n2.take m := by unfold n2 cut; rw [List.map_take]
theorem cut_large {r : RulesD} {m : Nat} (h : r.large = false) : (r.cut m).large = false := by
  unfold large big at h ⊢
  simp only [Bool.or_eq_false_iff, decide_eq_false_iff_not] at h ⊢
  obtain ⟨⟨a1, a2, a3, a4, a5, a6, a7⟩, b1, b2⟩ := h
  refine ⟨⟨a1, a2, a3, ?_, a5, a6, a7⟩, ?_, b2⟩
  · show ¬ 16 < (r.ties.take m).length
    rw [List.length_take]; omega
  · show (r.ties.take m).any _ = false
    rw [List.any_eq_false] at b1 ⊢
    exact fun t ht => b1 t (List.mem_of_mem_take ht)
theorem cut_namedB {fr : List UInt8 → Bool} {r : RulesD} {m : Nat} (h : r.namedB fr = true) : (r.cut m).namedB fr = true := by
  unfold namedB at h ⊢
  rw [cut_n2]
  simp only [Bool.and_eq_true] at h ⊢
  obtain ⟨a1, a2, a3, a4, a5⟩ := h
  refine ⟨a1, a2, a3, ?_, a5⟩
  rw [List.all_eq_true] at a4 ⊢
  exact fun t ht => a4 t (List.mem_of_mem_take ht)
theorem cut_once {r : RulesD} {m : Nat} (h : r.once = true) : (r.cut m).once = true := by
  unfold once at h ⊢
  rw [cut_n2]
  simp only [Bool.and_eq_true] at h ⊢
  obtain ⟨a1, a2, a3, a4⟩ := h
  refine ⟨a1, a2, ?_, a4⟩
  rw [onceF_iff] at a3 ⊢
  intro i j hi hj he
  rw [List.length_take] at hi hj
  rw [List.getElem_take, List.getElem_take] at he
  exact a3 i j (by omega) (by omega) he
theorem key_n {r : RulesD} (h : r.Sound) {t : TieD} (ht : t ∈ r.ties) {k : KeyD} (hk : k ∈ t.keys) (h5 : k.kind = 5) : k.n = indexF r.n2 k.name := by
  have h1 : r.tieN t = t := map_fix (congrArg RulesD.ties h.fix) t ht
  have h2 := map_fix (congrArg TieD.keys h1) k hk
  have := (congrArg KeyD.n h2).symm
  rw [this]; show (if k.kind = 1 then _ else if k.kind = 2 then _ else if k.kind = 5 then _ else _) = _
  rw [if_neg (by omega), if_neg (by omega), if_pos h5]
theorem round_n {r : RulesD} (h : r.Sound) {y : RoundD} (hy : y ∈ r.rounds) : y.tieNo = if y.tie = [] then -1 else indexF r.n2 y.tie := by
  have h1 : r.roundN y = y := map_fix (congrArg RulesD.rounds h.fix) y hy
  exact (congrArg RoundD.tieNo h1).symm
/-- Somebody refers to the m-th tie rule, which is left away. -/
theorem cut_lost {fr : List UInt8 → Bool} {r : RulesD} {m : Nat} (h : r.check fr = 0) (hx : (∃ t ∈ r.ties.take m, ∃ k ∈ t.keys, k.kind = 5 ∧ k.n = m) ∨ ∃ y ∈ r.rounds, y.tieNo = m) : (r.cut m).check fr = 140 := by
  have hs := sound_of h
  obtain ⟨h1, h2, h3, h4, h5⟩ := check_zero.1 h
  refine check_lost (cut_large h1) (cut_namedB h2) (cut_once h3) ?_
  unfold allOk
  rw [Bool.and_eq_false_iff]
  rcases hx with ⟨t, ht, k, hk, hk5, hn⟩ | ⟨y, hy, hn⟩
  · left
    have hkn := key_n hs (List.mem_of_mem_take ht) hk hk5
    rw [List.all_eq_false]
    refine ⟨t, ht, fun e => ?_⟩
    have e2 := List.all_eq_true.1 e k hk
    unfold keyOk at e2
    rw [if_neg (by omega), if_neg (by omega), if_pos hk5, cut_n2, indexF_take, if_neg (by omega)] at e2
    simp at e2
  · right
    have hyn := round_n hs hy
    rw [List.all_eq_false]
    refine ⟨y, hy, fun e => ?_⟩
    have e2 := (Bool.and_eq_true_iff.1 e).2
    rw [Bool.or_eq_true, decide_eq_true_iff, decide_eq_true_iff] at e2
    split at hyn
    · omega
    · rename_i hne
      have e3 := e2.resolve_left hne
      rw [cut_n2, indexF_take, if_neg (by omega)] at e3
      omega
/-- Nobody refers to what is left away. -/
theorem cut_kept {fr : List UInt8 → Bool} {r : RulesD} {m : Nat} (h : r.check fr = 0) (hm : m + 1 = r.ties.length) (hx : ∀ t ∈ r.ties.take m, ∀ k ∈ t.keys, k.kind = 5 → k.n ≠ m) (hy : ∀ y ∈ r.rounds, y.tieNo ≠ m) : (r.cut m).check fr = 0 := by
  have hs := sound_of h
  obtain ⟨h1, h2, h3, h4, h5⟩ := check_zero.1 h
  unfold allOk at h4
  rw [Bool.and_eq_true, List.all_eq_true, List.all_eq_true] at h4
  have hidx : ∀ (s : List UInt8), 0 ≤ indexF r.n2 s → indexF r.n2 s ≠ m → indexF (r.n2.take m) s = indexF r.n2 s := fun s e1 e2 => by
    have h9 := indexF_top (l := r.n2) (s := s)
    have h10 : r.n2.length = r.ties.length := by simp [n2]
    rw [indexF_take, if_pos (by omega)]
  have hky : ∀ t ∈ r.ties.take m, ∀ k ∈ t.keys, k.kind = 5 → indexF (r.n2.take m) k.name = indexF r.n2 k.name := fun t ht k hk hk5 => by
    have e1 := key_n hs (List.mem_of_mem_take ht) hk hk5
    have e2 := (hs.linked t (List.mem_of_mem_take ht)).2 k hk hk5
    exact hidx _ (by omega) (by have := hx t ht k hk hk5; omega)
  have hyy : ∀ y ∈ r.rounds, y.tie ≠ [] → indexF (r.n2.take m) y.tie = indexF r.n2 y.tie := fun y hy1 hne => by
    have e1 := round_n hs hy1
    rw [if_neg hne] at e1
    have e2 := (Bool.and_eq_true_iff.1 (h4.2 y hy1)).2
    rw [Bool.or_eq_true, decide_eq_true_iff, decide_eq_true_iff] at e2
    exact hidx _ (e2.resolve_left hne) (by have := hy y hy1; omega)
  refine check_zero.2 ⟨cut_large h1, cut_namedB h2, cut_once h3, ?_, ?_⟩
  · unfold allOk
    rw [Bool.and_eq_true, List.all_eq_true, List.all_eq_true]
    refine ⟨fun t ht => ?_, fun y hy1 => ?_⟩
    · have e1 := h4.1 t (List.mem_of_mem_take ht)
      unfold tieOk at e1 ⊢
      rw [List.all_eq_true] at e1 ⊢
      intro k hk
      have e2 := e1 k hk
      rw [cut_n2]
      unfold keyOk at e2 ⊢
      split
      · rename_i g1; rw [if_pos g1] at e2; exact e2
      · rename_i g1
        rw [if_neg g1] at e2
        split
        · rename_i g2; rw [if_pos g2] at e2; exact e2
        · rename_i g2
          rw [if_neg g2] at e2
          split
          · rename_i g3; rw [if_pos g3] at e2; rw [hky t ht k hk g3]; exact e2
          · rfl
    · have e1 := h4.2 y hy1
      unfold roundOk at e1 ⊢
      rw [cut_n2]
      rw [Bool.and_eq_true] at e1 ⊢
      refine ⟨e1.1, ?_⟩
      by_cases hne : y.tie = []
      · rw [decide_eq_true hne]; rfl
      · rw [hyy y hy1 hne]; exact e1.2
  · have et : ∀ t ∈ r.ties.take m, (r.cut m).tieN t = t := fun t ht => by
      have e1 : r.tieN t = t := map_fix (congrArg RulesD.ties h5) t (List.mem_of_mem_take ht)
      have e2 := map_fix (congrArg TieD.keys e1)
      unfold tieN
      have e3 : t.keys.map (keyN (r.cut m).n0 (r.cut m).n2 (r.cut m).n3) = t.keys := by
        conv => rhs; rw [← List.map_id t.keys]
        refine List.map_congr_left fun k hk => ?_
        have e4 := e2 k hk
        rw [cut_n2]
        show keyN r.n0 (r.n2.take m) r.n3 k = k
        unfold keyN at e4 ⊢
        by_cases g1 : k.kind = 1
        · simp only [if_pos g1] at e4 ⊢; exact e4
        · by_cases g2 : k.kind = 2
          · simp only [if_neg g1, if_pos g2] at e4 ⊢; exact e4
          · by_cases g3 : k.kind = 5
            · simp only [if_neg g1, if_neg g2, if_pos g3] at e4 ⊢; rw [hky t ht k hk g3]; exact e4
            · simp only [if_neg g1, if_neg g2, if_neg g3]
      rw [e3]
    have ey : ∀ y ∈ r.rounds, (r.cut m).roundN y = y := fun y hy1 => by
      have e1 : r.roundN y = y := map_fix (congrArg RulesD.rounds h5) y hy1
      conv => rhs; rw [← e1]
      unfold roundN
      rw [cut_n2]
      show ({ y with score := y.score.res r.n0 r.n3, tieNo := _ } : RoundD) = _
      by_cases hne : y.tie = []
      · rw [if_pos hne, if_pos hne]
      · rw [if_neg hne, if_neg hne, hyy y hy1 hne]
    unfold resolved
    show ({ r.cut m with ties := (r.ties.take m).map (r.cut m).tieN, rounds := r.rounds.map (r.cut m).roundN } : RulesD) = _
    rw [List.map_congr_left et, List.map_congr_left ey, List.map_id', List.map_id']
    rfl
theorem hk_of {r : RulesD} (hs : r.Sound) (hfi : r.fine = true) : Hk r.ties := fun i hi => by
  have hka : keysAt r.ties i = r.ties[i].keys := by unfold keysAt; rw [List.getElem?_eq_getElem hi]; rfl
  rw [hka]
  unfold RulesD.fine at hfi
  simp only [Bool.and_eq_true] at hfi
  have h6 := List.all_eq_true.1 hfi.2.2.2.2.2.2.2.1 _ (List.getElem_mem hi)
  unfold TieD.fine at h6
  rw [Bool.and_eq_true, decide_eq_true_iff] at h6
  refine ⟨fun e => by rw [e] at h6; simp at h6, fun k hk h5 => ?_⟩
  have := (hs.linked _ (List.getElem_mem hi)).2 k hk h5
  omega
theorem keysAt_take {ties : List TieD} {m i : Nat} (h : i < m) : keysAt (ties.take m) i = keysAt ties i := by unfold keysAt; rw [List.getElem?_take, if_pos h]
/-- What remains is sound, with the same keys. -/
theorem cut_same {fr : List UInt8 → Bool} {r : RulesD} {m : Nat} (h : (r.check15 fr).2 = 0) (hm : m + 1 = r.ties.length) (hx : ∀ t ∈ r.ties.take m, ∀ k ∈ t.keys, k.kind = 5 → k.n ≠ m) (hy : ∀ y ∈ r.rounds, y.tieNo ≠ m) : ((r.cut m).check15 fr).2 = 0 ∧ ∀ i, i < m → (r.cut m).keys15 fr i = r.keys15 fr i := by
  have hc0 : r.check fr = 0 := by
    unfold check15 at h
    split at h
    · rename_i h1; exact absurd h h1
    · rename_i h1; simpa using h1
  obtain ⟨hs, hfi, _, hL, he0, hrb⟩ := exp_of h
  have hk := hk_of hs hfi
  have hac : Acyc r.ties := Classical.byContradiction fun e => by rw [expansionF_circle hk e] at he0; cases he0
  obtain ⟨rk, hr⟩ := hac
  obtain ⟨F, hF⟩ := full_ex hk hr
  have hac := expansionF_acyc hk hr hF
  have hsh : ∀ i, i < r.ties.length → (F i).length ≤ 32 := fun i hi => Classical.byContradiction fun e => by
    rw [hac.1 ⟨i, hi, by omega⟩] at he0; cases he0
  have hLr := hac.2 hsh
  have hlen : (r.cut m).ties.length = m := by show (r.ties.take m).length = m; rw [List.length_take]; omega
  have hka : ∀ i, i < m → keysAt (r.cut m).ties i = keysAt r.ties i := fun i hi => keysAt_take hi
  have hmem : ∀ i, i < m → ∀ k ∈ keysAt r.ties i, k.kind = 5 → k.n ≠ m := fun i hi k hk5 h5 => by
    have hi2 : i < r.ties.length := by omega
    have e1 : keysAt r.ties i = r.ties[i].keys := by unfold keysAt; rw [List.getElem?_eq_getElem hi2]; rfl
    rw [e1] at hk5
    refine hx r.ties[i] ?_ k hk5 h5
    have : (r.ties.take m)[i]'(by rw [List.length_take]; omega) = r.ties[i] := List.getElem_take
    rw [← this]; exact List.getElem_mem _
  have hpos : ∀ i, i < r.ties.length → ∀ k ∈ keysAt r.ties i, k.kind = 5 → 0 ≤ k.n := fun i hi k hk5 h5 => by
    have e1 : keysAt r.ties i = r.ties[i].keys := by unfold keysAt; rw [List.getElem?_eq_getElem hi]; rfl
    rw [e1] at hk5
    exact ((hs.linked _ (List.getElem_mem hi)).2 k hk5 h5).1
  have hk2 : Hk (r.cut m).ties := fun i hi => by
    rw [hlen] at hi ⊢
    rw [hka i hi]
    refine ⟨(hk i (by omega)).1, fun k hk5 h5 => ?_⟩
    have e1 := (hk i (by omega)).2 k hk5 h5
    have e2 := hmem i hi k hk5 h5
    have e3 := hpos i (by omega) k hk5 h5
    omega
  have hr2 : Ranked (r.cut m).ties rk := fun i hi k hk5 h5 => by
    rw [hlen] at hi
    rw [hka i hi] at hk5
    exact hr i (by omega) k hk5 h5
  have hF2 : Full (r.cut m).ties F := fun i hi => by
    rw [hlen] at hi
    rw [hka i hi]; exact hF i (by omega)
  have he2 := (expansionF_acyc hk2 hr2 hF2).2 fun i hi => hsh i (by rw [hlen] at hi; omega)
  rw [hlen] at he2
  have hc2 := cut_kept hc0 hm hx hy
  have hfi2 : (r.cut m).fine = true := by
    unfold fine at hfi ⊢
    simp only [Bool.and_eq_true] at hfi ⊢
    obtain ⟨b1, b2, b3, b4, b5, b6, b7, b8, b9⟩ := hfi
    refine ⟨b1, b2, b3, b4, b5, b6, b7, ?_, b9⟩
    rw [List.all_eq_true] at b8 ⊢
    exact fun t ht => b8 t (List.mem_of_mem_take ht)
  have hgd : ∀ i, i < m → ((List.range m).map F).getD i [] = ((List.range r.ties.length).map F).getD i [] := fun i hi => by
    rw [List.getD_eq_getElem?_getD, List.getD_eq_getElem?_getD, List.getElem?_map, List.getElem?_map, List.getElem?_range hi, List.getElem?_range (by omega)]
  have hrb2 : roundsBad ((List.range m).map F) 0 r.rounds = false := by
    rw [hLr] at hrb
    have : ∀ (l : List RoundD) (j : Nat), (∀ y ∈ l, y ∈ r.rounds) → roundsBad ((List.range m).map F) j l = roundsBad ((List.range r.ties.length).map F) j l := by
      intro l
      induction l with
      | nil => intro j _; rfl
      | cons y l ih =>
        intro j hl
        unfold roundsBad
        rw [ih (j + 1) fun z hz => hl z (List.mem_cons_of_mem _ hz)]
        have e1 := hs.tieNo y (hl y List.mem_cons_self)
        have e2 := hy y (hl y List.mem_cons_self)
        unfold roundBad
        by_cases h0 : 0 ≤ y.tieNo
        · rw [hgd y.tieNo.toNat (by omega)]
        · rw [decide_eq_false h0]; rfl
    rw [this _ _ fun _ h => h]; exact hrb
  have hfin : (r.cut m).check15 fr = ((List.range m).map F, 0) := by
    unfold check15
    rw [if_neg (by simpa using hc2), if_neg (by simp [hfi2]), he2, if_neg (by simp)]
    show (if roundsBad ((List.range m).map F) 0 r.rounds = true then _ else _) = _
    rw [hrb2]; rfl
  refine ⟨by rw [hfin], fun i hi => ?_⟩
  rw [keys_of h i (by omega), keys_of (r := r.cut m) (by rw [hfin]) i (by rw [hlen]; exact hi), hfin, hL, hLr, hgd i hi]
theorem cut_bad {fr : List UInt8 → Bool} {r : RulesD} {m : Nat} (h : (r.check15 fr).2 = 0) (hx : (∃ t ∈ r.ties.take m, ∃ k ∈ t.keys, k.kind = 5 ∧ k.n = m) ∨ ∃ y ∈ r.rounds, y.tieNo = m) : ((r.cut m).check15 fr).2 = 140 := by
  have hc0 : r.check fr = 0 := by
    unfold check15 at h
    split at h
    · rename_i h1; exact absurd h h1
    · rename_i h1; simpa using h1
  have := cut_lost hc0 hx
  unfold check15
  rw [this]; rfl
theorem cut_few {r : RulesD} {m : Nat} (h : r.few = true) : (r.cut m).few = true := by
  unfold few at h ⊢
  simp only [Bool.and_eq_true, Bool.not_eq_true', Bool.or_eq_false_iff, decide_eq_false_iff_not, List.all_eq_true] at h ⊢
  obtain ⟨⟨a1, a2, a3, a4, a5, a6, a7⟩, b1, b2⟩ := h
  refine ⟨⟨a1, a2, a3, ?_, a5, a6, a7⟩, fun t ht => b1 t (List.mem_of_mem_take ht), b2⟩
  show ¬ 20 < (r.ties.take m).length
  rw [List.length_take]; omega
end RulesD
end Go.Fr

/- RulesFewer: the law's walk. -/
-- STRINGS
-- ROWS
-- PRUNEC
namespace Go.Proofs.YthldagplhklbnaaDoor
open Go Go.RowKit Go.Kx Go.Fr
set_option maxHeartbeats 4000000 in
set_option maxRecDepth 100000 in
theorem rulesFewer_any (kk : Nat) (r : RulesD) : FnC Tryd.prog 6 [rul kk r] [Tab] (fun p loc => p = exB true ∧ loc = []) := by
  have hfw := few15_any kk r
  by_cases hf : r.few15 = true
  · have hf14 := RulesD.few_of15 hf
    have hck := nCheck15_any kk r hf14
    rw [hf] at hfw
    by_cases hc : (r.check15 freeF).2 = 0
    · rw [hc] at hck
      by_cases h0 : r.ties.length = 0
      · unfold rul at *
        refine FnC_enter Tryd.func6 rfl Tryd.ntmps6 rfl fun w0 F0 out => ?_
        (repeat' (first | (apply at_region 3; refine Stop.out ?_) | refine WP_seq ?_ | refine WP_region ?_ | refine WPL_nil ?_ | (apply WPL_t; (first | exact WT_assign rfl | (apply g_un; first | exact WT_not rfl)); exact rfl) | refine WP_skip ?_ | refine WP_cond_f rfl ?_ | (apply WPL_op0; exact rfl; first | (apply g_callf; first | (refine WO_callG (.dup 1 rfl rfl .nil) Tryd.func7 rfl sane15_any rfl ?_ (hH := hH_tab2); rintro _ _ ⟨rfl, rfl⟩)) | (apply g_box; refine WO_box rfl ?_; intro _))))
        rename_i b1
        refine ⟨WP_leads (Leads_fp (k := 0) (t := 1) rfl rfl) ?_⟩
        (repeat' (first | refine WP_seq ?_ | refine WP_region ?_ | refine WPL_nil ?_ | (apply WPL_t; (first | exact WT_move rfl | exact WT_assign rfl | exact WT_pick (b := false) rfl (fun e => by cases e) (fun _ => rfl) | (apply g_load; first | exact WT_loadfa rfl rfl) | (apply g_un; first | exact WT_not rfl)); exact rfl) | (apply WPL_gt; exact rfl; exact rfl; exact rfl; (first | (apply g_load; first | exact WT_loadf rfl rfl | exact WT_loadfa rfl rfl) | (apply g_fld; first | exact WT_fieldf rfl rfl rfl) | (apply g_bin; first | exact WT_eql rfl rfl | exact WT_neq rfl rfl) | (apply g_call; first | exact WT_len rfl rfl)); exact rfl) | refine WP_ret ?_ | (apply WPL_op0; exact rfl; first | (apply g_callf; first | (refine WO_call Tryd.func8 rfl hfw rfl ?_; rintro _ _ ⟨rfl, rfl⟩))) | (apply WPL_on0; exact rfl; exact rfl; exact rfl; exact rfl; (apply g_callf; first | (refine WO_callG (.dup 0 rfl rfl .nil) Tryd.func9 rfl hck rfl ?_ (hH := hH_tab2); rintro _ _ ⟨rfl, rfl⟩))) | (refine WP_cond rfl (fun hb => ?_) (fun hb => ?_) <;> (repeat (first | replace hb := dec_t hb | replace hb := dec_f hb)) <;> (try (exfalso; first | omega)))))
        all_goals (try (exfalso; omega))
        all_goals exact ⟨.inr rfl, ret1 rfl (.tmp rfl) (List.nil_sublist _) ⟨rfl, rfl⟩⟩
      · obtain ⟨m, hm⟩ : ∃ m, m + 1 = r.ties.length := ⟨r.ties.length - 1, by omega⟩
        have hxf := RulesD.cut_few (m := m) hf14
        have hcxs := nCheck15_any kk (r.cut m) hxf
        have hkys := fun tie => nKeys15_any kk r tie hf14
        have hkxs := fun tie => nKeys15_any kk (r.cut m) tie hxf
        have hbad := RulesD.cut_bad (m := m) hc
        have hsame := RulesD.cut_same (m := m) hc hm
        have hlin := (RulesD.exp_of hc).1.linked
        have hko : ∀ i, i < r.ties.length → r.keys15 freeF i = ((r.check15 freeF).1.getD i [], 0) := RulesD.keys_of hc
        generalize (r.check15 freeF).1 = L at hko
        unfold rul at hfw hck hkys hkxs hcxs ⊢
        refine FnC_says (i := 0) rfl (Says_agg (i := 4) (p := isl eTie r.ties) rfl Says_isl) fun hty => ?_
        refine FnC_says (i := 0) rfl (Says_agg (i := 5) (p := isl (eRound kk) r.rounds) rfl Says_isl) fun hry => ?_
        obtain ⟨hty, -⟩ := hty
        obtain ⟨hry, -⟩ := hry
        simp only [maxLen] at hty hry
        refine FnC_enter Tryd.func6 rfl Tryd.ntmps6 rfl fun w0 F0 out => ?_
        (repeat' (first | (apply at_region 3; refine Stop.out ?_) | refine WP_seq ?_ | refine WP_region ?_ | refine WPL_nil ?_ | (apply WPL_t; (first | exact WT_assign rfl | (apply g_un; first | exact WT_not rfl)); exact rfl) | refine WP_skip ?_ | refine WP_cond_f rfl ?_ | (apply WPL_op0; exact rfl; first | (apply g_callf; first | (refine WO_callG (.dup 1 rfl rfl .nil) Tryd.func7 rfl sane15_any rfl ?_ (hH := hH_tab2); rintro _ _ ⟨rfl, rfl⟩)) | (apply g_box; refine WO_box rfl ?_; intro _))))
        rename_i b1
        refine ⟨WP_leads (Leads_fp (k := 0) (t := 1) rfl rfl) ?_⟩
        (repeat' (first | (apply at_region 5; refine Stop.out ?_) | refine WP_seq ?_ | refine WP_region ?_ | refine WPL_nil ?_ | (apply WPL_t; (first | exact WT_move rfl | exact WT_pick (b := false) rfl (fun e => by cases e) (fun _ => rfl) | (apply g_load; first | exact WT_loadfa rfl rfl) | (apply g_un; first | exact WT_not rfl)); exact rfl) | (apply WPL_gt; exact rfl; exact rfl; exact rfl; (first | (apply g_load; first | exact WT_loadf rfl rfl | exact WT_loadfa rfl rfl) | (apply g_fld; first | exact WT_fieldf rfl rfl rfl) | (apply g_bin; first | exact WT_eql rfl rfl | exact WT_neq rfl rfl) | (apply g_call; first | exact WT_len rfl rfl)); exact rfl) | refine WP_skip ?_ | (apply WPL_op0; exact rfl; first | (apply g_callf; first | (refine WO_call Tryd.func8 rfl hfw rfl ?_; rintro _ _ ⟨rfl, rfl⟩))) | (apply WPL_on0; exact rfl; exact rfl; exact rfl; exact rfl; (apply g_callf; first | (refine WO_callG (.dup 0 rfl rfl .nil) Tryd.func9 rfl hck rfl ?_ (hH := hH_tab2); rintro _ _ ⟨rfl, rfl⟩))) | (refine WP_cond rfl (fun hb => ?_) (fun hb => ?_) <;> (repeat (first | replace hb := dec_t hb | replace hb := dec_f hb)) <;> (try (exfalso; first | omega)))))
        all_goals (try (exfalso; omega))
        refine ⟨?_⟩
        have hm' : (r.ties.length : Int) - 1 = (m : Int) := by omega
        (repeat' (first | (apply at_region 6; refine Stop.out ?_) | refine WP_seq ?_ | refine WP_region ?_ | refine WPL_nil ?_ | (apply WPL_t; (first | exact WT_assign rfl | (apply g_load; first | exact WT_loadf rfl rfl) | (apply g_fld; first | exact WT_fieldf rfl rfl rfl) | (apply g_bin; first | exact WT_sub rfl rfl) | (apply g_call; first | exact WT_len rfl rfl)); exact rfl)))
        rw [hm']
        refine ⟨?_⟩
        (repeat' (first | (apply at_region 8; refine Stop.out ?_) | refine WP_seq ?_ | refine WP_region ?_ | refine WPL_nil ?_ | (apply WPL_t; (first | exact WT_move rfl | (apply g_load; first | exact WT_loadf rfl rfl | exact WT_loadfa rfl rfl) | (apply g_fld; first | exact WT_field rfl rfl rfl | exact WT_fieldf rfl rfl rfl) | (apply g_slice; first | exact WT_slch rfl rfl rfl)); exact rfl) | (apply WPL_op0; exact rfl; first | (apply g_alloc; refine WO_alloc ?_; intro _) | (apply g_store; first | refine WO_store (k := 0) (l0 := []) rfl rfl rfl ?_))))
        refine ⟨WP_leads (Leads_fp (k := 0) (t := 4) rfl rfl) ?_⟩
        refine WP_leads (Leads_env (env' := [(1, fp (rulesV kk r)), (3, exI .i64 (m : Int)), (4, fp (rulesV kk (r.cut m)))]) (loc' := [Tab]) (by repeat (first | exact sub_nil | refine sub_cons rfl ?_)) (List.Sublist.refl _)) ?_
        (repeat' (first | refine WP_region ?_ | refine WPL_nil ?_ | (apply WPL_t; (first | exact WT_assign rfl); exact rfl) | refine WP_block ?_))
        refine WP_loop (fun i : Nat => ([(1, fp (rulesV kk r)), (3, exI .i64 (m : Int)), (4, fp (rulesV kk (r.cut m))), (5, exI .i64 (i : Int))], [Tab])) (fun i => i ≤ m ∧ ∀ t ∈ r.ties.take i, ∀ k ∈ t.keys, k.kind = 5 → k.n ≠ m) (fun i => m - i) 0 ?_ ⟨Nat.zero_le _, fun t ht => by cases ht⟩ fun i hi => ?_
        · exact Leads_env (by repeat (first | exact sub_nil | refine sub_cons rfl ?_)) (List.Sublist.refl _)
        obtain ⟨hi, hpre⟩ := hi
        by_cases hlt : i < m
        · have hil : i < r.ties.length := by omega
          have hk32 := (hlin r.ties[i] (List.getElem_mem hil)).1
          (repeat' (first | refine WP_seq ?_ | refine WP_region ?_ | refine WPL_nil ?_ | (apply WPL_t; (first | exact WT_move rfl | exact WT_assign rfl | (apply g_bin; first | exact WT_lss rfl rfl)); exact rfl) | refine WP_block ?_ | refine WP_skip ?_ | (refine WP_cond rfl (fun hb => ?_) (fun hb => ?_) <;> (repeat (first | replace hb := dec_t hb | replace hb := dec_f hb)) <;> (try (exfalso; first | omega)))))
          all_goals (try (exfalso; omega))
          refine WP_loop (fun q : Nat => ([(1, fp (rulesV kk r)), (3, exI .i64 (m : Int)), (4, fp (rulesV kk (r.cut m))), (5, exI .i64 (i : Int)), (6, exI .i64 (q : Int))], [Tab])) (fun q => q ≤ r.ties[i].keys.length ∧ ∀ k ∈ r.ties[i].keys.take q, k.kind = 5 → k.n ≠ m) (fun q => r.ties[i].keys.length - q) 0 ?_ ⟨Nat.zero_le _, fun k hk => by cases hk⟩ fun q hq => ?_
          · exact Leads_env (by repeat (first | exact sub_nil | refine sub_cons rfl ?_)) (List.Sublist.refl _)
          obtain ⟨hq, hpq⟩ := hq
          by_cases hlq : q < r.ties[i].keys.length
          · by_cases hit : r.ties[i].keys[q].kind = 5 ∧ r.ties[i].keys[q].n = m
            · have hcx := hcxs
              rw [hbad (.inl ⟨r.ties[i], by
                have : (r.ties.take m)[i]'(by rw [List.length_take]; omega) = r.ties[i] := List.getElem_take
                rw [← this]; exact List.getElem_mem _, _, List.getElem_mem hlq, hit⟩)] at hcx
              obtain ⟨hit1, hit2⟩ := hit
              (repeat' (first | refine WP_seq ?_ | refine WP_region ?_ | refine WPL_nil ?_ | (apply WPL_t; (first | exact WT_move rfl | exact WT_assign rfl | exact WT_pick (b := true) rfl (fun _ => rfl) (fun e => by cases e) | (apply g_load; first | exact WT_loadf rfl rfl | exact WT_loadfa rfl rfl) | (apply g_fld; first | exact WT_fieldf rfl rfl rfl) | (apply g_bin; first | exact WT_lss rfl rfl | exact WT_eql rfl rfl) | (apply g_index; first | exact WT_index rfl rfl rfl) | (apply g_call; first | exact WT_len rfl rfl)); exact rfl) | (apply WPL_gt; exact rfl; exact rfl; exact rfl; (first | exact WT_move rfl | (apply g_load; first | exact WT_loadf rfl rfl) | (apply g_fld; first | exact WT_fieldf rfl rfl rfl) | (apply g_bin; first | exact WT_eql rfl rfl) | (apply g_index; first | exact WT_index rfl rfl rfl)); exact rfl) | refine WP_block ?_ | refine WP_skip ?_ | refine WP_ret ?_ | (apply WPL_op0; exact rfl; first | (apply g_callf; first | (refine WO_callG (.dup 0 rfl rfl .nil) Tryd.func9 rfl hcx rfl ?_ (hH := hH_tab2); rintro _ _ ⟨rfl, rfl⟩))) | (refine WPL_case rfl rfl (fun hb => ?_) (fun hb => ?_) <;> (repeat (first | replace hb := dec_t hb | replace hb := dec_f hb)) <;> (try (exfalso; first | contradiction))) | (refine WP_cond rfl (fun hb => ?_) (fun hb => ?_) <;> (repeat (first | replace hb := dec_t hb | replace hb := dec_f hb)) <;> (try (exfalso; first | contradiction | omega)))))
              all_goals (try (exfalso; first | contradiction | omega))
              exact ⟨.inr rfl, ret1 rfl (.tmp rfl) (List.nil_sublist _) ⟨rfl, rfl⟩⟩
            · have hok : ∀ k ∈ r.ties[i].keys.take (q + 1), k.kind = 5 → k.n ≠ m := fun k hk h5 hn => by
                rw [List.take_succ_eq_append_getElem hlq] at hk
                rcases List.mem_append.1 hk with h | h
                · exact hpq k h h5 hn
                · rw [List.mem_singleton.1 h] at h5 hn; exact hit ⟨h5, hn⟩
              clear hpq
              (repeat' (first | refine WP_seq ?_ | refine WP_region ?_ | refine WPL_nil ?_ | (apply WPL_t; (first | exact WT_move rfl | exact WT_assign rfl | exact WT_pick (b := true) rfl (fun _ => rfl) (fun e => by cases e) | exact WT_pick (b := false) rfl (fun e => by cases e) (fun _ => rfl) | (apply g_load; first | exact WT_loadf rfl rfl) | (apply g_fld; first | exact WT_fieldf rfl rfl rfl) | (apply g_bin; first | exact WT_lss rfl rfl | exact WT_eql rfl rfl | exact WT_add rfl rfl) | (apply g_index; first | exact WT_index rfl rfl rfl) | (apply g_call; first | exact WT_len rfl rfl)); exact rfl) | (refine WPL_off rfl rfl rfl rfl rfl ?_) | (apply WPL_gt; exact rfl; exact rfl; exact rfl; (first | exact WT_move rfl | (apply g_load; first | exact WT_loadf rfl rfl) | (apply g_fld; first | exact WT_fieldf rfl rfl rfl) | (apply g_bin; first | exact WT_eql rfl rfl) | (apply g_index; first | exact WT_index rfl rfl rfl)); exact rfl) | refine WP_block ?_ | refine WP_skip ?_ | refine WP_cond_f rfl ?_ | (refine WPL_case rfl rfl (fun hb => ?_) (fun hb => ?_) <;> (repeat (first | replace hb := dec_t hb | replace hb := dec_f hb)) <;> (try (exfalso; first | fail))) | (refine WP_cond rfl (fun hb => ?_) (fun hb => ?_) <;> (repeat (first | replace hb := dec_t hb | replace hb := dec_f hb)) <;> (try (exfalso; first | omega)))))
              all_goals (try (exfalso; first | contradiction | omega | exact hit ⟨by assumption, by assumption⟩))
              all_goals exact ⟨q + 1, ⟨by omega, hok⟩, by omega, Leads_env (by repeat (first | exact sub_nil | refine sub_cons rfl ?_)) (List.Sublist.refl _)⟩
          · have hk9 : q = r.ties[i].keys.length := by omega
            subst hk9
            rw [List.take_length] at hpq
            have hok : ∀ t ∈ r.ties.take (i + 1), ∀ k ∈ t.keys, k.kind = 5 → k.n ≠ m := fun t ht k hk h5 => by
              rw [List.take_succ_eq_append_getElem hil] at ht
              rcases List.mem_append.1 ht with h | h
              · exact hpre t h k hk h5
              · rw [List.mem_singleton.1 h] at hk; exact hpq k hk h5
            (repeat' (first | refine WP_seq ?_ | refine WP_region ?_ | refine WPL_nil ?_ | (apply WPL_t; (first | exact WT_move rfl | exact WT_assign rfl | (apply g_load; first | exact WT_loadf rfl rfl) | (apply g_fld; first | exact WT_fieldf rfl rfl rfl) | (apply g_bin; first | exact WT_lss rfl rfl | exact WT_add rfl rfl) | (apply g_index; first | exact WT_index rfl rfl rfl) | (apply g_call; first | exact WT_len rfl rfl)); exact rfl) | refine WP_exit ?_ | (refine WP_cond rfl (fun hb => ?_) (fun hb => ?_) <;> (repeat (first | replace hb := dec_t hb | replace hb := dec_f hb)) <;> (try (exfalso; first | omega)))))
            all_goals (try (exfalso; first | contradiction | omega))
            exact ⟨i + 1, ⟨by omega, hok⟩, by omega, Leads_env (by repeat (first | exact sub_nil | refine sub_cons rfl ?_)) (List.Sublist.refl _)⟩
        · have hk9 : i = m := by omega
          subst hk9
          (repeat' (first | refine WP_seq ?_ | refine WP_region ?_ | refine WPL_nil ?_ | (apply WPL_t; (first | exact WT_move rfl | exact WT_assign rfl | (apply g_bin; first | exact WT_lss rfl rfl)); exact rfl) | refine WP_block ?_ | refine WP_exit ?_ | (refine WP_cond rfl (fun hb => ?_) (fun hb => ?_) <;> (repeat (first | replace hb := dec_t hb | replace hb := dec_f hb)) <;> (try (exfalso; first | omega)))))
          all_goals (try (exfalso; omega))
          refine WP_loop (fun j : Nat => ([(1, fp (rulesV kk r)), (3, exI .i64 (i : Int)), (4, fp (rulesV kk (r.cut i))), (7, exI .i64 (j : Int))], [Tab])) (fun j => j ≤ r.rounds.length ∧ ∀ y ∈ r.rounds.take j, y.tieNo ≠ i) (fun j => r.rounds.length - j) 0 ?_ ⟨Nat.zero_le _, fun y hy => by cases hy⟩ fun j hj => ?_
          · exact Leads_env (by repeat (first | exact sub_nil | refine sub_cons rfl ?_)) (List.Sublist.refl _)
          obtain ⟨hj, hpj⟩ := hj
          by_cases hlj : j < r.rounds.length
          · by_cases hit : r.rounds[j].tieNo = i
            · have hcx := hcxs
              rw [hbad (.inr ⟨_, List.getElem_mem hlj, hit⟩)] at hcx
              (repeat' (first | refine WP_seq ?_ | refine WP_region ?_ | refine WPL_nil ?_ | (apply WPL_t; (first | exact WT_move rfl | exact WT_assign rfl | (apply g_load; first | exact WT_loadf rfl rfl | exact WT_loadfa rfl rfl) | (apply g_fld; first | exact WT_fieldf rfl rfl rfl) | (apply g_bin; first | exact WT_lss rfl rfl | exact WT_eql rfl rfl) | (apply g_index; first | exact WT_index rfl rfl rfl) | (apply g_call; first | exact WT_len rfl rfl)); exact rfl) | refine WP_block ?_ | refine WP_skip ?_ | refine WP_ret ?_ | (apply WPL_op0; exact rfl; first | (apply g_callf; first | (refine WO_callG (.dup 0 rfl rfl .nil) Tryd.func9 rfl hcx rfl ?_ (hH := hH_tab2); rintro _ _ ⟨rfl, rfl⟩))) | (refine WP_cond rfl (fun hb => ?_) (fun hb => ?_) <;> (repeat (first | replace hb := dec_t hb | replace hb := dec_f hb)) <;> (try (exfalso; first | contradiction | omega)))))
              all_goals (try (exfalso; first | contradiction | omega))
              exact ⟨.inr rfl, ret1 rfl (.tmp rfl) (List.nil_sublist _) ⟨rfl, rfl⟩⟩
            · have hok : ∀ y ∈ r.rounds.take (j + 1), y.tieNo ≠ i := fun y hy => by
                rw [List.take_succ_eq_append_getElem hlj] at hy
                rcases List.mem_append.1 hy with h | h
                · exact hpj y h
                · rw [List.mem_singleton.1 h]; exact hit
              clear hpj
              (repeat' (first | refine WP_seq ?_ | refine WP_region ?_ | refine WPL_nil ?_ | (apply WPL_t; (first | exact WT_move rfl | exact WT_assign rfl | (apply g_load; first | exact WT_loadf rfl rfl) | (apply g_fld; first | exact WT_fieldf rfl rfl rfl) | (apply g_bin; first | exact WT_lss rfl rfl | exact WT_eql rfl rfl | exact WT_add rfl rfl) | (apply g_index; first | exact WT_index rfl rfl rfl) | (apply g_call; first | exact WT_len rfl rfl)); exact rfl) | refine WP_block ?_ | refine WP_skip ?_ | (refine WP_cond rfl (fun hb => ?_) (fun hb => ?_) <;> (repeat (first | replace hb := dec_t hb | replace hb := dec_f hb)) <;> (try (exfalso; first | contradiction | omega)))))
              all_goals (try (exfalso; first | contradiction | omega))
              all_goals exact ⟨j + 1, ⟨by omega, hok⟩, by omega, Leads_env (by repeat (first | exact sub_nil | refine sub_cons rfl ?_)) (List.Sublist.refl _)⟩
          · have hk9 : j = r.rounds.length := by omega
            subst hk9
            rw [List.take_length] at hpj
            obtain ⟨hs1, hs2⟩ := hsame hpre hpj
            have hcx := hcxs
            rw [hs1] at hcx
            have hkl : ∀ q, q < i → FnC Tryd.prog 10 [agg (rulesV kk r), exI .i64 (q : Int)] [Tab] (fun p loc => p = tup [isl eKey (L.getD q []), exI .i64 0] ∧ loc = []) := fun q hq => by
              have := hkys q
              rw [hko q (by omega)] at this
              exact this
            have hxl : ∀ q, q < i → FnC Tryd.prog 10 [agg (rulesV kk (r.cut i)), exI .i64 (q : Int)] [Tab] (fun p loc => p = tup [isl eKey (L.getD q []), exI .i64 0] ∧ loc = []) := fun q hq => by
              have := hkxs q
              rw [hs2 q hq, hko q (by omega)] at this
              exact this
            clear hkys hkxs hsame hbad hpre hpj hcxs hs2 hs1
            (repeat' (first | refine WP_seq ?_ | refine WP_region ?_ | refine WPL_nil ?_ | (apply WPL_t; (first | exact WT_move rfl | exact WT_assign rfl | (apply g_load; first | exact WT_loadf rfl rfl | exact WT_loadfa rfl rfl) | (apply g_fld; first | exact WT_fieldf rfl rfl rfl) | (apply g_bin; first | exact WT_lss rfl rfl | exact WT_neq rfl rfl) | (apply g_call; first | exact WT_len rfl rfl)); exact rfl) | refine WP_block ?_ | refine WP_skip ?_ | refine WP_exit ?_ | refine WP_cond_f rfl ?_ | (apply WPL_op0; exact rfl; first | (apply g_callf; first | (refine WO_callG (.dup 0 rfl rfl .nil) Tryd.func9 rfl hcx rfl ?_ (hH := hH_tab2); rintro _ _ ⟨rfl, rfl⟩))) | (refine WP_cond rfl (fun hb => ?_) (fun hb => ?_) <;> (repeat (first | replace hb := dec_t hb | replace hb := dec_f hb)) <;> (try (exfalso; first | omega)))))
            all_goals (try (exfalso; first | contradiction | omega))
            refine WP_loop (fun q : Nat => ([(1, fp (rulesV kk r)), (3, exI .i64 (i : Int)), (4, fp (rulesV kk (r.cut i))), (8, exI .i64 (q : Int))], [Tab])) (fun q => q ≤ i) (fun q => i - q) 0 ?_ (Nat.zero_le _) fun q hq => ?_
            · exact Leads_env (by repeat (first | exact sub_nil | refine sub_cons rfl ?_)) (List.Sublist.refl _)
            by_cases hlq : q < i
            · have hky := hkl q hlq
              have hkx := hxl q hlq
              have hsm := same15_any (L.getD q []) (L.getD q [])
              rw [decide_eq_true rfl] at hsm
              (repeat' (first | refine WP_seq ?_ | refine WP_region ?_ | refine WPL_nil ?_ | (apply WPL_t; (first | exact WT_move rfl | exact WT_assign rfl | exact WT_pick (b := false) rfl (fun e => by cases e) (fun _ => rfl) | exact WT_extract rfl rfl | (apply g_load; first | exact WT_loadfa rfl rfl) | (apply g_bin; first | exact WT_lss rfl rfl | exact WT_neq rfl rfl | exact WT_add rfl rfl)); exact rfl) | (apply WPL_gt; exact rfl; exact rfl; exact rfl; (first | exact WT_move rfl | (apply g_bin; first | exact WT_neq rfl rfl) | (apply g_un; first | exact WT_not rfl)); exact rfl) | refine WP_block ?_ | refine WP_skip ?_ | refine WP_cond_f rfl ?_ | (apply WPL_op0; exact rfl; first | (apply g_callf; first | (refine WO_callG (.dup 0 rfl rfl .nil) Tryd.func10 rfl hky rfl ?_ (hH := hH_tab2); rintro _ _ ⟨rfl, rfl⟩) | (refine WO_callG (.dup 0 rfl rfl .nil) Tryd.func10 rfl hkx rfl ?_ (hH := hH_tab2); rintro _ _ ⟨rfl, rfl⟩))) | (apply WPL_on0; exact rfl; exact rfl; exact rfl; exact rfl; (apply g_callf; first | (refine WO_call Tryd.func11 rfl hsm rfl ?_; rintro _ _ ⟨rfl, rfl⟩))) | (refine WP_cond rfl (fun hb => ?_) (fun hb => ?_) <;> (repeat (first | replace hb := dec_t hb | replace hb := dec_f hb)) <;> (try (exfalso; first | omega)))))
              all_goals (try (exfalso; first | contradiction | omega))
              exact ⟨q + 1, by omega, by omega, Leads_env (by repeat (first | exact sub_nil | refine sub_cons rfl ?_)) (List.Sublist.refl _)⟩
            · (repeat' (first | refine WP_seq ?_ | refine WP_region ?_ | refine WPL_nil ?_ | (apply WPL_t; (first | exact WT_move rfl | exact WT_assign rfl | (apply g_bin; first | exact WT_lss rfl rfl)); exact rfl) | refine WP_ret ?_ | refine WP_exit ?_ | (refine WP_cond rfl (fun hb => ?_) (fun hb => ?_) <;> (repeat (first | replace hb := dec_t hb | replace hb := dec_f hb)) <;> (try (exfalso; first | omega)))))
              all_goals (try (exfalso; omega))
              exact ⟨.inr rfl, ret1 rfl (.tmp rfl) (List.nil_sublist _) ⟨rfl, rfl⟩⟩
    · unfold rul at *
      refine FnC_enter Tryd.func6 rfl Tryd.ntmps6 rfl fun w0 F0 out => ?_
      (repeat' (first | (apply at_region 3; refine Stop.out ?_) | refine WP_seq ?_ | refine WP_region ?_ | refine WPL_nil ?_ | (apply WPL_t; (first | exact WT_assign rfl | (apply g_un; first | exact WT_not rfl)); exact rfl) | refine WP_skip ?_ | refine WP_cond_f rfl ?_ | (apply WPL_op0; exact rfl; first | (apply g_callf; first | (refine WO_callG (.dup 1 rfl rfl .nil) Tryd.func7 rfl sane15_any rfl ?_ (hH := hH_tab2); rintro _ _ ⟨rfl, rfl⟩)) | (apply g_box; refine WO_box rfl ?_; intro _))))
      rename_i b1
      refine ⟨WP_leads (Leads_fp (k := 0) (t := 1) rfl rfl) ?_⟩
      (repeat' (first | refine WP_seq ?_ | refine WP_region ?_ | refine WPL_nil ?_ | (apply WPL_t; (first | exact WT_move rfl | exact WT_assign rfl | exact WT_pick (b := true) rfl (fun _ => rfl) (fun e => by cases e) | exact WT_pick (b := false) rfl (fun e => by cases e) (fun _ => rfl) | (apply g_load; first | exact WT_loadfa rfl rfl) | (apply g_un; first | exact WT_not rfl)); exact rfl) | (refine WPL_off rfl rfl rfl rfl rfl ?_) | (apply WPL_gt; exact rfl; exact rfl; exact rfl; (first | (apply g_load; first | exact WT_loadfa rfl rfl) | (apply g_bin; first | exact WT_neq rfl rfl)); exact rfl) | refine WP_ret ?_ | refine WP_cond_t rfl ?_ | (apply WPL_op0; exact rfl; first | (apply g_callf; first | (refine WO_call Tryd.func8 rfl hfw rfl ?_; rintro _ _ ⟨rfl, rfl⟩))) | (apply WPL_on0; exact rfl; exact rfl; exact rfl; exact rfl; (apply g_callf; first | (refine WO_callG (.dup 0 rfl rfl .nil) Tryd.func9 rfl hck rfl ?_ (hH := hH_tab2); rintro _ _ ⟨rfl, rfl⟩))) | (refine WPL_case rfl rfl (fun hb => ?_) (fun hb => ?_) <;> (repeat (first | replace hb := dec_t hb | replace hb := dec_f hb | replace hb := not_t hb | replace hb := not_f hb)) <;> (try (exfalso; first | contradiction)))))
      all_goals (try (exfalso; omega))
      exact ⟨.inr rfl, ret1 rfl (.tmp rfl) (List.nil_sublist _) ⟨rfl, rfl⟩⟩
  · have hf' : r.few15 = false := by simpa using hf
    rw [hf'] at hfw
    unfold rul at *
    refine FnC_enter Tryd.func6 rfl Tryd.ntmps6 rfl fun w0 F0 out => ?_
    (repeat' (first | (apply at_region 3; refine Stop.out ?_) | refine WP_seq ?_ | refine WP_region ?_ | refine WPL_nil ?_ | (apply WPL_t; (first | exact WT_assign rfl | (apply g_un; first | exact WT_not rfl)); exact rfl) | refine WP_skip ?_ | refine WP_cond_f rfl ?_ | (apply WPL_op0; exact rfl; first | (apply g_callf; first | (refine WO_callG (.dup 1 rfl rfl .nil) Tryd.func7 rfl sane15_any rfl ?_ (hH := hH_tab2); rintro _ _ ⟨rfl, rfl⟩)) | (apply g_box; refine WO_box rfl ?_; intro _))))
    rename_i b1
    refine ⟨WP_leads (Leads_fp (k := 0) (t := 1) rfl rfl) ?_⟩
    (repeat' (first | refine WP_seq ?_ | refine WP_region ?_ | refine WPL_nil ?_ | (apply WPL_t; (first | exact WT_move rfl | exact WT_assign rfl | exact WT_pick (b := true) rfl (fun _ => rfl) (fun e => by cases e) | (apply g_load; first | exact WT_loadfa rfl rfl) | (apply g_un; first | exact WT_not rfl)); exact rfl) | (refine WPL_off rfl rfl rfl rfl rfl ?_) | refine WP_ret ?_ | refine WP_cond_t rfl ?_ | (apply WPL_op0; exact rfl; first | (apply g_callf; first | (refine WO_call Tryd.func8 rfl hfw rfl ?_; rintro _ _ ⟨rfl, rfl⟩)))))
    exact ⟨.inr rfl, ret1 rfl (.tmp rfl) (List.nil_sublist _) ⟨rfl, rfl⟩⟩
end Go.Proofs.YthldagplhklbnaaDoor
