/- Plain laws of the journal's records: how sectors are scanned. No program in sight. -/
import Derived.Test.YtmghnjahjeinnaaLa
namespace Go.Proofs.Ytmghnjahjeinnaa
open Go.Fr Go.Kx

def paysR (o : List (List UInt8)) (i : Nat) : Nat → List UInt8
  | 0 => []
  | k + 1 => paysR o i k ++ payS (secAt o (i + k))

/-- A record of n sectors begins at sector i. -/
structure Rec (o : List (List UInt8)) (i n : Nat) : Prop where
  pos : 0 < n
  len : i + n ≤ o.length
  good : ∀ j, j < n → badR o i j = false
  more : ∀ j, j + 1 < n → kindS (secAt o (i + j)) < 2
  last : ∀ j, j + 1 = n → 2 ≤ kindS (secAt o (i + j))

theorem recR_go {o : List (List UInt8)} {i n : Nat} (h : Rec o i n) : ∀ f k, n - k ≤ f → k < n → recR o i f k (paysR o i k) = (paysR o i n, n)
  | 0, k, hf, hk => by omega
  | f + 1, k, hf, hk => by
    rw [recR_succ, if_pos (by have := h.len; omega), h.good k hk, if_neg (by decide)]
    by_cases hl : k + 1 = n
    · rw [if_pos (h.last k hl)]
      subst hl
      rfl
    · rw [if_neg (by have := h.more k (by omega); omega)]
      exact recR_go h f (k + 1) (by omega) (by omega)
theorem Rec.record {o : List (List UInt8)} {i n : Nat} (h : Rec o i n) : recordR o i = (paysR o i n, n) :=
  recR_go h (o.length + 1) 0 (by have := h.len; omega) h.pos
theorem recR_back {o : List (List UInt8)} {i : Nat} : ∀ f k b n, recR o i f k (paysR o i k) = (b, n) → n ≠ 0 → (∀ j, j < k → badR o i j = false ∧ kindS (secAt o (i + j)) < 2) → Rec o i n ∧ b = paysR o i n
  | 0, k, b, n, h, hn, _ => by
    simp only [recR, Prod.mk.injEq] at h
    exact absurd h.2.symm hn
  | f + 1, k, b, n, h, hn, hk => by
    rw [recR_succ] at h
    split at h
    · rename_i hin
      split at h
      · simp only [Prod.mk.injEq] at h
        exact absurd h.2.symm hn
      · rename_i hbad
        have hbad' : badR o i k = false := by simpa using hbad
        split at h
        · rename_i hkd
          simp only [Prod.mk.injEq] at h
          obtain ⟨rfl, rfl⟩ := h
          refine ⟨⟨by omega, by omega, fun j hj => ?_, fun j hj => (hk j (by omega)).2, fun j hj => ?_⟩, rfl⟩
          · by_cases hjk : j = k
            · rw [hjk]; exact hbad'
            · exact (hk j (by omega)).1
          · rw [show j = k by omega]; exact hkd
        · rename_i hkd
          refine recR_back f (k + 1) b n h hn fun j hj => ?_
          by_cases hjk : j = k
          · rw [hjk]; exact ⟨hbad', by omega⟩
          · exact hk j (by omega)
    · simp only [Prod.mk.injEq] at h
      exact absurd h.2.symm hn
theorem record_back {o : List (List UInt8)} {i : Nat} (h : (recordR o i).2 ≠ 0) : Rec o i (recordR o i).2 ∧ (recordR o i).1 = paysR o i (recordR o i).2 :=
  recR_back (o.length + 1) 0 (recordR o i).1 (recordR o i).2 rfl h fun j hj => absurd hj (Nat.not_lt_zero j)
theorem recR_stop {o : List (List UInt8)} {i m : Nat} (h : ∀ j, j < m → badR o i j = false ∧ kindS (secAt o (i + j)) < 2) (hm : o.length ≤ i + m ∨ badR o i m = true) : ∀ f k acc, k ≤ m → (recR o i f k acc).2 = 0
  | 0, _, _, _ => rfl
  | f + 1, k, acc, hk => by
    rw [recR_succ]
    split
    · by_cases hkm : k = m
      · subst hkm
        rcases hm with hm | hm
        · omega
        · rw [hm]; rfl
      · have hj := h k (by omega)
        rw [hj.1, if_neg (by decide), if_neg (by omega)]
        exact recR_stop h hm f (k + 1) _ (by omega)
    · rfl
theorem record_stop {o : List (List UInt8)} {i : Nat} (m : Nat) (h : ∀ j, j < m → badR o i j = false ∧ kindS (secAt o (i + j)) < 2) (hm : o.length ≤ i + m ∨ badR o i m = true) : (recordR o i).2 = 0 :=
  recR_stop h hm (o.length + 1) 0 [] (Nat.zero_le _)
theorem record_out {o : List (List UInt8)} {i : Nat} (h : o.length ≤ i) : (recordR o i).2 = 0 := record_stop 0 (fun j hj => absurd hj (Nat.not_lt_zero j)) (.inl h)

theorem badR_local {o o' : List (List UInt8)} {i j : Nat} (h0 : secAt o' i = secAt o i) (h : secAt o' (i + j) = secAt o (i + j)) : badR o' i j = badR o i j := by
  unfold badR; rw [h0, h]
theorem Rec.local {o o' : List (List UInt8)} {i n : Nat} (h : Rec o i n) (hl : i + n ≤ o'.length) (hs : ∀ j, j < n → secAt o' (i + j) = secAt o (i + j)) : Rec o' i n ∧ paysR o' i n = paysR o i n := by
  have h0 : secAt o' i = secAt o i := hs 0 h.pos
  refine ⟨⟨h.pos, hl, fun j hj => ?_, fun j hj => ?_, fun j hj => ?_⟩, ?_⟩
  · rw [badR_local h0 (hs j hj)]; exact h.good j hj
  · rw [hs j (by omega)]; exact h.more j hj
  · rw [hs j (by omega)]; exact h.last j hj
  · have key : ∀ k, k ≤ n → paysR o' i k = paysR o i k := by
      intro k
      induction k with
      | zero => intro _; rfl
      | succ k ih => intro hk; simp only [paysR]; rw [ih (by omega), hs k (by omega)]
    exact key n (Nat.le_refl _)

/-- Records are read from sector i on, with the generation g before, up to sector j, the last of generation g'. -/
inductive Scan (o : List (List UInt8)) : Nat → Nat → List (List UInt8) → Nat → Nat → Prop
  | nil (i g : Nat) : Scan o i g [] i g
  | cons {i g n j g' : Nat} {rs : List (List UInt8)} : Rec o i n → g ≤ numN ((secAt o i).take 4) → Scan o (i + n) (numN ((secAt o i).take 4)) rs j g' → Scan o i g (paysR o i n :: rs) j g'
def Halt (o : List (List UInt8)) (j g : Nat) : Prop := (recordR o j).2 = 0 ∨ numN ((secAt o j).take 4) < g

theorem recsR_scan {o : List (List UInt8)} : ∀ f i g acc, o.length < f + i → ∃ rs j g', recsR o f i g acc = acc ++ rs ∧ Scan o i g rs j g' ∧ Halt o j g'
  | 0, i, g, acc, h => ⟨[], i, g, by simp [recsR], .nil i g, .inl (record_out (by omega))⟩
  | f + 1, i, g, acc, h => by
    rw [recsR_succ]
    split
    · rename_i hc
      exact ⟨[], i, g, by simp, .nil i g, hc⟩
    · rename_i hc
      have hn : (recordR o i).2 ≠ 0 := fun e => hc (.inl e)
      obtain ⟨hr, hb⟩ := record_back hn
      have hpos := hr.pos
      obtain ⟨rs, j, g', h1, h2, h3⟩ := recsR_scan (o := o) f (i + (recordR o i).2) (numN ((secAt o i).take 4)) (acc ++ [(recordR o i).1]) (by omega)
      refine ⟨paysR o i (recordR o i).2 :: rs, j, g', ?_, .cons hr (by have : ¬ numN ((secAt o i).take 4) < g := fun e => hc (.inr e); omega) h2, h3⟩
      rw [h1, hb]; simp
theorem Scan.recs {o : List (List UInt8)} {i g j g' : Nat} {rs : List (List UInt8)} (h : Scan o i g rs j g') (hh : Halt o j g') : ∀ f acc, o.length < f + i → recsR o f i g acc = acc ++ rs := by
  induction h with
  | nil i g =>
    intro f acc _
    cases f with
    | zero => simp [recsR]
    | succ f => rw [recsR_succ, if_pos (show (recordR o i).2 = 0 ∨ numN ((secAt o i).take 4) < g from hh)]; simp
  | @cons i g n j g' rs hr hg _ ih =>
    intro f acc hf
    have hl := hr.len
    have hp := hr.pos
    cases f with
    | zero => omega
    | succ f =>
      rw [recsR_succ, hr.record, if_neg (by dsimp only; rintro (e | e) <;> omega)]
      dsimp only
      rw [ih hh f _ (by omega)]; simp
theorem Scan.le {o : List (List UInt8)} {i g j g' : Nat} {rs : List (List UInt8)} (h : Scan o i g rs j g') : i ≤ j := by
  induction h with
  | nil => exact Nat.le_refl _
  | cons _ _ _ ih => omega
theorem Scan.local {o o' : List (List UInt8)} {i g j g' : Nat} {rs : List (List UInt8)} (h : Scan o i g rs j g') (hl : o'.length = o.length) : (∀ k, i ≤ k → k < j → secAt o' k = secAt o k) → Scan o' i g rs j g' := by
  induction h with
  | nil i g => intro _; exact .nil i g
  | @cons i g n j g' rs hr hg hs ih =>
    intro hk
    have hle := hs.le
    have hp := hr.pos
    obtain ⟨h1, h2⟩ := hr.local (o' := o') (by rw [hl]; exact hr.len) fun j hj => hk _ (by omega) (by omega)
    have h0 : secAt o' i = secAt o i := hk i (Nat.le_refl _) (by omega)
    rw [← h2]
    refine .cons h1 (by rw [h0]; exact hg) ?_
    rw [h0]
    exact ih fun k hk1 hk2 => hk k (by omega) hk2
theorem Scan.app {o : List (List UInt8)} {i g j g' : Nat} {rs : List (List UInt8)} (h : Scan o i g rs j g') {rs' : List (List UInt8)} {k g'' : Nat} : Scan o j g' rs' k g'' → Scan o i g (rs ++ rs') k g'' := by
  induction h with
  | nil => exact id
  | cons hr hg _ ih => intro h2; exact .cons hr hg (ih h2)
theorem secAt_mem {o : List (List UInt8)} {i : Nat} (h : i < o.length) : secAt o i ∈ o := by
  unfold secAt; rw [List.getElem?_eq_getElem h]; exact List.getElem_mem h
theorem Scan.gen {o : List (List UInt8)} {i g j g' G : Nat} {rs : List (List UInt8)} (h : Scan o i g rs j g') (hG : ∀ s ∈ o, numN (s.take 4) ≤ G) : g ≤ G → g' ≤ G := by
  induction h with
  | nil => exact id
  | cons hr hg _ ih =>
    intro _
    have hl := hr.len
    have hp := hr.pos
    exact ih (hG _ (secAt_mem (by omega)))
theorem paysR_length {o : List (List UInt8)} {i n : Nat} (h : Rec o i n) (h128 : ∀ s ∈ o, s.length = 128) : secsN (paysR o i n).length = n := by
  have hg : ∀ j, j < n → goodR (secAt o (i + j)) (i + j) = true := fun j hj => badR_good (h.good j hj)
  have hsl : ∀ j, j < n → (secAt o (i + j)).length = 128 := fun j hj => h128 _ (secAt_mem (by have := h.len; omega))
  have hpl : ∀ j, j < n → (payS (secAt o (i + j))).length = ((secAt o (i + j))[11]?.getD 0).toNat := by
    intro j hj
    unfold payS
    have := goodR_len (hg j hj)
    rw [List.length_drop, List.length_take, hsl j hj]; omega
  have hmid : ∀ j, j + 1 < n → (payS (secAt o (i + j))).length = 112 := by
    intro j hj
    rw [hpl j (by omega)]
    have h1 := hg j (by omega)
    have h2 := h.more j hj
    unfold goodR headR at h1
    unfold kindS at h2
    simp only [Bool.and_eq_true, decide_eq_true_eq, Bool.not_eq_true', Bool.and_eq_false_iff, decide_eq_false_iff_not] at h1
    omega
  have key : ∀ k, k + 1 ≤ n → (paysR o i k).length = 112 * k := by
    intro k
    induction k with
    | zero => intro _; rfl
    | succ k ih => intro hk; simp only [paysR, List.length_append]; rw [ih (by omega), hmid k (by omega)]; omega
  obtain ⟨m, rfl⟩ : ∃ m, n = m + 1 := ⟨n - 1, by have := h.pos; omega⟩
  have h1 := hg m (by omega)
  have h2 := goodR_len h1
  simp only [paysR, List.length_append]
  rw [key m (Nat.le_refl _), hpl m (by omega)]
  have h3 : 0 < m → ((secAt o (i + m))[11]?.getD 0).toNat ≠ 0 := by
    intro hm
    have hb := h.good m (by omega)
    unfold badR at hb
    unfold goodR headR at h1
    simp only [Bool.or_eq_false_iff, bne_eq_false_iff_eq, decide_eq_decide] at hb
    simp only [Bool.and_eq_true, decide_eq_true_eq, Bool.not_eq_true', Bool.and_eq_false_iff, decide_eq_false_iff_not] at h1
    have hk : ¬ kindS (secAt o (i + m)) % 2 = 1 := fun e => by have := hb.2.1.1 e; omega
    unfold kindS at hk
    omega
  unfold secsN
  by_cases hm : m = 0
  · subst hm; omega
  · have := h3 (by omega); omega
theorem Scan.used {o : List (List UInt8)} {i g j g' : Nat} {rs : List (List UInt8)} (h : Scan o i g rs j g') (h128 : ∀ s ∈ o, s.length = 128) : j = i + usedN rs := by
  induction h with
  | nil => simp [usedN]
  | cons hr _ _ ih =>
    have := paysR_length hr h128
    simp only [usedN, List.map_cons, List.sum_cons] at ih ⊢
    omega

theorem records_scan (o : List (List UInt8)) (h128 : ∀ s ∈ o, s.length = 128) : ∃ g', Scan o 0 0 (recordsR o) (usedN (recordsR o)) g' ∧ Halt o (usedN (recordsR o)) g' := by
  obtain ⟨rs, j, g', h1, h2, h3⟩ := recsR_scan (o := o) (o.length + 1) 0 0 [] (by omega)
  have e : recordsR o = rs := by unfold recordsR; rw [h1]; simp
  have hu := h2.used h128
  rw [Nat.zero_add] at hu
  subst hu
  rw [e]
  exact ⟨g', h2, h3⟩
theorem scan_records {o : List (List UInt8)} {rs : List (List UInt8)} {j g' : Nat} (h : Scan o 0 0 rs j g') (hh : Halt o j g') : recordsR o = rs := by
  unfold recordsR; rw [h.recs hh (o.length + 1) [] (by omega)]; simp

end Go.Proofs.Ytmghnjahjeinnaa
