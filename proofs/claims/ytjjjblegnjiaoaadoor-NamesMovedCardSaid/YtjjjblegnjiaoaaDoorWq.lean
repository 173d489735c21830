/- Two criteria change their places. No program in sight. -/
import Derived.Test.YtjjjblegnjiaoaaDoorWp
namespace Go.Fr
open Go.RowKit Go.Kx
def mvI (i j : Nat) (n : Int) : Int := if n = i then j else if n = j then i else n
def mvN (i j n : Nat) : Nat := if n = i then j else if n = j then i else n
theorem mvI_nat (i j n : Nat) : mvI i j (n : Int) = (mvN i j n : Nat) := by
  unfold mvI mvN
  by_cases h1 : n = i
  · simp [h1]
  · by_cases h2 : n = j
    · subst h2; simp [h1, show ¬ ((n : Int) = i) by omega]
    · simp [h1, h2, show ¬ ((n : Int) = i) by omega, show ¬ ((n : Int) = j) by omega]
theorem mvN_lt {i j n m : Nat} (hi : i < m) (hj : j < m) (h : n < m) : mvN i j n < m := by unfold mvN; split; exact hj; split; exact hi; exact h
theorem mvN_mvN (i j n : Nat) : mvN i j (mvN i j n) = n := by
  unfold mvN
  by_cases h1 : n = i
  · subst h1; by_cases h2 : n = j
    · simp [h2]
    · rw [if_pos rfl]; by_cases h3 : j = n; exact absurd h3.symm h2; rw [if_neg h3, if_pos rfl]
  · rw [if_neg h1]
    by_cases h2 : n = j
    · rw [if_pos h2, if_pos rfl, h2]
    · rw [if_neg h2, if_neg h1, if_neg h2]
def swp {α : Type} (l : List α) (i j : Nat) (hi : i < l.length) (hj : j < l.length) : List α := (l.set i l[j]).set j l[i]
theorem swp_len {α : Type} (l : List α) (i j : Nat) (hi : i < l.length) (hj : j < l.length) : (swp l i j hi hj).length = l.length := by simp [swp]
theorem swp_at {α : Type} (l : List α) (i j : Nat) (hi : i < l.length) (hj : j < l.length) (n : Nat) (hn : n < (swp l i j hi hj).length) : (swp l i j hi hj)[n] = l[mvN i j n]'(mvN_lt hi hj (by rw [swp_len] at hn; exact hn)) := by
  have key : ∀ (h' : n < ((l.set i l[j]).set j l[i]).length) (h2 : mvN i j n < l.length), ((l.set i l[j]).set j l[i])[n] = l[mvN i j n] := by
    intro h' h2
    rw [List.getElem_set]
    by_cases h3 : j = n
    · subst h3
      rw [if_pos rfl]
      by_cases h4 : j = i
      · subst h4; simp [mvN]
      · simp [mvN, h4]
    · rw [if_neg h3, List.getElem_set]
      by_cases h4 : i = n
      · subst h4; simp [mvN]
      · rw [if_neg h4]; simp [mvN, Ne.symm h4, Ne.symm h3]
  exact key hn _
theorem swp_map {α β : Type} (f : α → β) (l : List α) (i j : Nat) (hi : i < l.length) (hj : j < l.length) : (swp l i j hi hj).map f = swp (l.map f) i j (by rw [List.length_map]; exact hi) (by rw [List.length_map]; exact hj) := by
  unfold swp; simp [List.map_set]
theorem swp_mem {α : Type} (l : List α) (i j : Nat) (hi : i < l.length) (hj : j < l.length) (s : α) : s ∈ swp l i j hi hj ↔ s ∈ l := by
  constructor
  · intro h
    obtain ⟨n, hn, rfl⟩ := List.getElem_of_mem h
    rw [swp_at]; exact List.getElem_mem _
  · intro h
    obtain ⟨n, hn, rfl⟩ := List.getElem_of_mem h
    have h2 : mvN i j n < (swp l i j hi hj).length := by rw [swp_len]; exact mvN_lt hi hj hn
    have := swp_at l i j hi hj (mvN i j n) h2
    simp only [mvN_mvN] at this
    rw [← this]; exact List.getElem_mem _
theorem swp_once (l : List (List UInt8)) (i j : Nat) (hi : i < l.length) (hj : j < l.length) : onceF (swp l i j hi hj) = onceF l := by
  rw [Bool.eq_iff_iff, onceF_iff, onceF_iff]
  constructor
  · intro h a b ha hb he
    have ha2 : mvN i j a < (swp l i j hi hj).length := by rw [swp_len]; exact mvN_lt hi hj ha
    have hb2 : mvN i j b < (swp l i j hi hj).length := by rw [swp_len]; exact mvN_lt hi hj hb
    have := h (mvN i j a) (mvN i j b) ha2 hb2 (by rw [swp_at, swp_at]; simp only [mvN_mvN]; exact he)
    have h3 := congrArg (mvN i j) this
    rwa [mvN_mvN, mvN_mvN] at h3
  · intro h a b ha hb he
    rw [swp_at, swp_at] at he
    have := h _ _ _ _ he
    have h3 := congrArg (mvN i j) this
    rwa [mvN_mvN, mvN_mvN] at h3
theorem swp_index (l : List (List UInt8)) (i j : Nat) (hi : i < l.length) (hj : j < l.length) (ho : onceF l = true) (s : List UInt8) : indexF (swp l i j hi hj) s = mvI i j (indexF l s) := by
  by_cases hs : s ∈ l
  · obtain ⟨n, hn, e1, e2, _⟩ := indexF_lt hs
    obtain ⟨p, hp, e3, e4, _⟩ := indexF_lt ((swp_mem l i j hi hj s).2 hs)
    rw [e1, e3, mvI_nat]
    rw [swp_at] at e4
    have := (onceF_iff l).1 ho _ _ _ hn (e4.trans e2.symm)
    rw [← this, mvN_mvN]
  · have h1 : indexF l s = -1 := indexF_miss fun q hq e => hs (e ▸ List.getElem_mem hq)
    have h2 : indexF (swp l i j hi hj) s = -1 := indexF_miss fun q hq e => hs ((swp_mem l i j hi hj s).1 (e ▸ List.getElem_mem hq))
    rw [h1, h2]
    unfold mvI
    rw [if_neg (by omega), if_neg (by omega)]
theorem swp_nonneg (l : List (List UInt8)) (i j : Nat) (hi : i < l.length) (hj : j < l.length) (s : List UInt8) : decide (0 ≤ indexF (swp l i j hi hj) s) = decide (0 ≤ indexF l s) := by
  rw [decide_eq_decide, indexF_nonneg, indexF_nonneg, swp_mem]
namespace Ex
mutual
def mov (i j : Nat) : Ex → Ex
  | mk k s n d l => mk k s (if k = 2 then mvI i j n else n) d (movs i j l)
def movs (i j : Nat) : List Ex → List Ex
  | [] => []
  | x :: xs => mov i j x :: movs i j xs
end
theorem movs_map (i j : Nat) : ∀ l : List Ex, movs i j l = l.map (mov i j)
  | [] => rfl
  | x :: xs => by simp [movs, movs_map i j xs]
theorem mov_l (i j : Nat) (x : Ex) : x.mov i j = mk x.kind x.name (if x.kind = 2 then mvI i j x.n else x.n) x.d (x.l.map (mov i j)) := by cases x; simp [mov, movs_map, kind, name, n, d, l]; rfl
mutual
theorem mov_res (i j : Nat) (l0 l0' l3 : List (List UInt8)) (h : ∀ s, indexF l0' s = mvI i j (indexF l0 s)) : ∀ x : Ex, x.res l0' l3 = (x.res l0 l3).mov i j
  | mk k s n d l => by
    simp only [res, mov, movs_res i j l0 l0' l3 h l, mk.injEq, true_and, and_true]
    unfold refN
    by_cases k2 : k = 2
    · simp [k2, h]
    · simp [k2]
theorem movs_res (i j : Nat) (l0 l0' l3 : List (List UInt8)) (h : ∀ s, indexF l0' s = mvI i j (indexF l0 s)) : ∀ x : List Ex, ress l0' l3 x = movs i j (ress l0 l3 x)
  | [] => rfl
  | x :: xs => by simp only [ress, movs, mov_res i j l0 l0' l3 h x, movs_res i j l0 l0' l3 h xs]
end
mutual
theorem ok_mem (l0 l0' l3 : List (List UInt8)) (h : ∀ s, decide (0 ≤ indexF l0' s) = decide (0 ≤ indexF l0 s)) : ∀ x : Ex, x.ok l0' l3 = x.ok l0 l3
  | mk k s n d l => by simp only [ok, refOk, h, oks_mem l0 l0' l3 h l]
theorem oks_mem (l0 l0' l3 : List (List UInt8)) (h : ∀ s, decide (0 ≤ indexF l0' s) = decide (0 ≤ indexF l0 s)) : ∀ x : List Ex, oks l0' l3 x = oks l0 l3 x
  | [] => rfl
  | x :: xs => by simp only [oks, ok_mem l0 l0' l3 h x, oks_mem l0 l0' l3 h xs]
end
end Ex
def keyMov (i j : Nat) (q : KeyD) : KeyD := { q with n := if q.kind = 1 then mvI i j q.n else q.n }
theorem keyMov_N (i j : Nat) (l0 l0' l2 l3 : List (List UInt8)) (h : ∀ s, indexF l0' s = mvI i j (indexF l0 s)) (q : KeyD) : keyN l0' l2 l3 q = keyMov i j (keyN l0 l2 l3 q) := by
  unfold keyN keyMov
  by_cases h1 : q.kind = 1
  · simp [h1, h]
  · simp [h1]
namespace RulesD
def tieMov (i j : Nat) (t : TieD) : TieD := { t with keys := t.keys.map (keyMov i j) }
def roundMov (i j : Nat) (y : RoundD) : RoundD := { y with score := y.score.mov i j }
def swap (r : RulesD) (i j : Nat) (hi : i < r.crits.length) (hj : j < r.crits.length) : RulesD := { r with crits := swp r.crits i j hi hj }
def moved (r : RulesD) (c : List Crit) (i j : Nat) : RulesD := { r with crits := c, ties := r.ties.map (tieMov i j), rounds := r.rounds.map (roundMov i j) }
theorem swap_resolve (fr : List UInt8 → Bool) (r : RulesD) (i j : Nat) (hi : i < r.crits.length) (hj : j < r.crits.length) :
    ((r.swap i j hi hj).resolve fr).2 = (r.resolve fr).2 ∧ (r.swap i j hi hj).few = r.few ∧ ((r.resolve fr).2 = 0 → ((r.swap i j hi hj).resolve fr).1 = (r.resolved).moved (swp r.crits i j hi hj) i j) := by
  have e0 : (r.swap i j hi hj).n0 = swp r.n0 i j (by unfold n0; rw [List.length_map]; exact hi) (by unfold n0; rw [List.length_map]; exact hj) := swp_map _ _ _ _ _ _
  have e1 : (r.swap i j hi hj).n1 = r.n1 := rfl
  have e2 : (r.swap i j hi hj).n2 = r.n2 := rfl
  have e3 : (r.swap i j hi hj).n3 = r.n3 := rfl
  have el : (r.swap i j hi hj).crits.length = r.crits.length := swp_len _ _ _ _ _
  have hm : ∀ s, decide (0 ≤ indexF (r.swap i j hi hj).n0 s) = decide (0 ≤ indexF r.n0 s) := fun s => by rw [e0]; exact swp_nonneg _ _ _ _ _ _
  have hfr : (r.swap i j hi hj).n0.all fr = r.n0.all fr := by
    rw [Bool.eq_iff_iff, List.all_eq_true, List.all_eq_true, e0]
    exact ⟨fun h s hs => h s ((swp_mem _ _ _ _ _ _).2 hs), fun h s hs => h s ((swp_mem _ _ _ _ _ _).1 hs)⟩
  have hon : (r.swap i j hi hj).once = r.once := by
    unfold once
    rw [e0, e1, e2, e3, swp_once]
  have hk : ∀ q, keyOk (r.swap i j hi hj).n0 r.n2 r.n3 q = keyOk r.n0 r.n2 r.n3 q := fun q => by unfold keyOk; rw [hm]
  have hto : (r.swap i j hi hj).tieOk = r.tieOk := by
    funext t
    unfold tieOk
    rw [e2, e3]
    congr 1
    funext q; exact hk q
  have hro : (r.swap i j hi hj).roundOk = r.roundOk := by
    funext y
    unfold roundOk
    rw [e2, e3, Ex.ok_mem _ _ _ hm]
  have hao : (r.swap i j hi hj).allOk = r.allOk := by unfold allOk; rw [hto, hro]; rfl
  have hlg : (r.swap i j hi hj).large = r.large := by unfold large big; rw [el]; rfl
  have hfw : (r.swap i j hi hj).few = r.few := by unfold few; rw [el]; rfl
  have hE : ((r.swap i j hi hj).resolve fr).2 = (r.resolve fr).2 := by
    unfold resolve
    rw [hlg, hfr, e1, e2, e3, hon, hao, show (r.swap i j hi hj).name = r.name from rfl]
    split
    · rfl
    · split
      · rfl
      · split
        · rfl
        · split <;> rfl
  refine ⟨hE, hfw, fun h => ?_⟩
  have ho : onceF r.n0 = true := by
    unfold resolve at h
    split at h
    · cases h
    · split at h
      · cases h
      · split at h
        · cases h
        · rename_i h3
          simp only [once, Bool.not_eq_true', Bool.not_eq_false, Bool.and_eq_true] at h3
          exact h3.1
  have hx : ((r.swap i j hi hj).resolve fr).1 = (r.swap i j hi hj).resolved := by
    have h2 := hE.trans h
    unfold resolve at h2 ⊢
    split at h2
    · cases h2
    · split at h2
      · cases h2
      · split at h2
        · cases h2
        · split at h2
          · cases h2
          · rename_i g1 g2 g3 g4
            rw [if_neg g1, if_neg g2, if_neg g3, if_neg g4]
  rw [hx]
  have hi0 : ∀ s, indexF (r.swap i j hi hj).n0 s = mvI i j (indexF r.n0 s) := fun s => by rw [e0]; exact swp_index _ _ _ _ _ ho s
  unfold resolved moved
  have t1 : (r.swap i j hi hj).ties.map (r.swap i j hi hj).tieN = (r.ties.map r.tieN).map (tieMov i j) := by
    rw [List.map_map]
    refine List.map_congr_left fun t _ => ?_
    unfold tieN tieMov
    rw [e2, e3]
    simp only [Function.comp, List.map_map]
    congr 1
    refine List.map_congr_left fun q _ => ?_
    exact keyMov_N i j _ _ _ _ hi0 q
  have t2 : (r.swap i j hi hj).rounds.map (r.swap i j hi hj).roundN = (r.rounds.map r.roundN).map (roundMov i j) := by
    rw [List.map_map]
    refine List.map_congr_left fun y _ => ?_
    unfold roundN roundMov
    rw [e2, e3, Ex.mov_res i j _ _ _ hi0]
    rfl
  rw [t1, t2]
  rfl
end RulesD
end Go.Fr
