/- Plain laws of the journal's Sync. No program in sight. -/
import Derived.Test.YtmghnjahjeinnaaNb
import Derived.Test.YtmghnjahjeinnaaJour5
namespace Go.Proofs.Ytmghnjahjeinnaa
open Go.Fr Go.Kx

theorem secAt_set (l : List (List UInt8)) (n i : Nat) (x : List UInt8) : secAt (l.set n x) i = if i = n ∧ n < l.length then x else secAt l i := by
  unfold secAt
  rw [List.getElem?_set]
  by_cases h : n = i
  · subst h
    by_cases h2 : n < l.length
    · simp [h2]
    · simp [h2]
  · rw [if_neg h, if_neg (fun e => h e.1.symm)]
theorem secAt_iff {o : List (List UInt8)} {P : List UInt8 → Prop} : (∀ s ∈ o, P s) ↔ ∀ i, i < o.length → P (secAt o i) := by
  constructor
  · intro h i hi; exact h _ (secAt_mem hi)
  · intro h s hs
    obtain ⟨i, hi, rfl⟩ := List.getElem_of_mem hs
    have := h i hi
    unfold secAt at this
    rwa [List.getElem?_eq_getElem hi] at this

theorem allF_get (g : Nat) : ∀ (r : List (List UInt8)) (at_ j : Nat), j < usedN r → ∃ x, (allF g r at_)[j]? = some ⟨((at_ + j : Nat) : Int), x⟩ ∧ x.length = 128 ∧ x.take 4 = numB 4 g ∧ x.drop 124 = numB 4 g
  | [], at_, j, h => by simp [usedN] at h
  | b :: r, at_, j, h => by
    have e : usedN (b :: r) = secsN b.length + usedN r := by simp [usedN]
    by_cases hj : j < secsN b.length
    · have hp := (piece_len hj).1
      exact ⟨_, allF_cons_get0 g b r at_ j hj, encF_length _ _ _ _ hp, enc_take4 _ _ _ _ hp, enc_drop124 _ _ _ _ hp⟩
    · obtain ⟨x, h1, h2⟩ := allF_get g r (at_ + secsN b.length) (j - secsN b.length) (by omega)
      refine ⟨x, ?_, h2⟩
      rw [show j = secsN b.length + (j - secsN b.length) by omega, allF_cons_get, h1, show at_ + secsN b.length + (j - secsN b.length) = at_ + (secsN b.length + (j - secsN b.length)) by omega]
theorem dataAt_get {g : Nat} {r : List (List UInt8)} {at_ j : Nat} (h : j < usedN r) : (allF g r at_)[j]? = some ⟨((at_ + j : Nat) : Int), dataAt (allF g r at_) j⟩ ∧ (dataAt (allF g r at_) j).length = 128 ∧ (dataAt (allF g r at_) j).take 4 = numB 4 g ∧ (dataAt (allF g r at_) j).drop 124 = numB 4 g := by
  obtain ⟨x, h1, h2⟩ := allF_get g r at_ j h
  have e : dataAt (allF g r at_) j = x := by unfold dataAt; rw [h1]; rfl
  rw [e]; exact ⟨h1, h2⟩
theorem perf_secAt {secs : List (List UInt8)} {g : Nat} {r : List (List UInt8)} {at_ : Nat} : ∀ k, k ≤ usedN r → at_ + k ≤ secs.length → ∀ i, secAt (performF secs ((allF g r at_).take k)) i = if at_ ≤ i ∧ i < at_ + k then dataAt (allF g r at_) (i - at_) else secAt secs i
  | 0, _, _, i => by rw [if_neg (by omega), List.take_zero]; rfl
  | k + 1, hk, hl, i => by
    obtain ⟨h1, _⟩ := dataAt_get (g := g) (at_ := at_) (j := k) (r := r) (by omega)
    have hlen : k < (allF g r at_).length := by rw [allF_length]; omega
    have h2 : (allF g r at_)[k] = ⟨((at_ + k : Nat) : Int), dataAt (allF g r at_) k⟩ := by
      rw [List.getElem?_eq_getElem hlen] at h1; exact Option.some.inj h1
    rw [performF_step _ _ _ hlen, h2]
    dsimp only
    rw [Int.toNat_natCast, secAt_set, performF_length, perf_secAt k (by omega) (by omega) i]
    by_cases h : i = at_ + k
    · subst h
      rw [if_pos ⟨rfl, by omega⟩, if_pos (by omega), Nat.add_sub_cancel_left]
    · rw [if_neg (fun e => h e.1)]
      by_cases h3 : at_ ≤ i ∧ i < at_ + k
      · rw [if_pos h3, if_pos (by omega)]
      · rw [if_neg h3, if_neg (by omega)]

/-- No sector's generation is above G. -/
def NB (G : Nat) (o : List (List UInt8)) : Prop := ∀ s ∈ o, numN (s.take 4) ≤ G ∧ numN (s.drop 124) ≤ G
theorem genM_ge : ∀ (o : List (List UInt8)) (n : Nat), n ≤ o.foldl (fun n s => max (max n (numN (s.take 4))) (numN (s.drop 124))) n ∧ ∀ s ∈ o, numN (s.take 4) ≤ o.foldl (fun n s => max (max n (numN (s.take 4))) (numN (s.drop 124))) n ∧ numN (s.drop 124) ≤ o.foldl (fun n s => max (max n (numN (s.take 4))) (numN (s.drop 124))) n
  | [], n => ⟨Nat.le_refl _, fun s hs => by cases hs⟩
  | x :: r, n => by
    obtain ⟨h1, h2⟩ := genM_ge r (max (max n (numN (x.take 4))) (numN (x.drop 124)))
    simp only [List.foldl_cons]
    refine ⟨by omega, fun s hs => ?_⟩
    rcases List.mem_cons.1 hs with rfl | hs
    · omega
    · exact h2 s hs
theorem genM_least {G : Nat} : ∀ (o : List (List UInt8)) (n : Nat), n ≤ G → NB G o → o.foldl (fun n s => max (max n (numN (s.take 4))) (numN (s.drop 124))) n ≤ G
  | [], n, h, _ => h
  | x :: r, n, h, hb => by
    have := hb x (by simp)
    exact genM_least r (max (max n (numN (x.take 4))) (numN (x.drop 124))) (by omega) fun s hs => hb s (List.mem_cons_of_mem _ hs)
theorem NB.genF {G : Nat} {o : List (List UInt8)} (h : NB G o) (h128 : ∀ s ∈ o, s.length = 128) : genF o ≤ G + 1 := by
  rw [genM_eq o h128]
  have := genM_least (G := G) o 0 (Nat.zero_le _) h
  unfold genM; omega
theorem genF_nb {o : List (List UInt8)} (h128 : ∀ s ∈ o, s.length = 128) : ∀ s ∈ o, numN (s.take 4) < genF o ∧ numN (s.drop 124) < genF o := by
  intro s hs
  rw [genM_eq o h128]
  have := (genM_ge o 0).2 s hs
  unfold genM; omega
theorem genF_pos (o : List (List UInt8)) (h128 : ∀ s ∈ o, s.length = 128) : 0 < genF o := by rw [genM_eq o h128]; omega

/-- A disk that runs and has nothing pending. -/
structure Good (D : Disk) : Prop where
  ok : Disk.ok D = true
  runs : D.stopped = false
  none : D.pend = []
theorem Good.all {D : Disk} (h : Good D) : (∀ s ∈ D.secs, s.length = 128) ∧ 1 ≤ D.secs.length ∧ D.secs.length ≤ 4096 ∧ -1 ≤ D.left ∧ D.left ≤ 65536 := by
  obtain ⟨a1, a2, a3, a4, a5, a6, a7⟩ := (ok_iff D).1 h.ok
  exact ⟨a7, a1, a2, a4, a5⟩
theorem good_of {secs : List (List UInt8)} {left : Int} (h : ∀ s ∈ secs, s.length = 128) (h1 : 1 ≤ secs.length) (h2 : secs.length ≤ 4096) (h3 : -1 ≤ left) (h4 : left ≤ 65536) : Good ⟨secs, [], left, false⟩ :=
  ⟨(ok_iff _).2 ⟨h1, h2, by simp, h3, h4, by simp, h⟩, rfl, rfl⟩

theorem Good.with {D : Disk} (h : Good D) {W : List Wr} (hl : W.length ≤ 4096) (hW : ∀ x ∈ W, 0 ≤ x.at_ ∧ x.at_ < (D.secs.length : Int) ∧ x.data.length = 128) : Disk.ok { D with pend := W } = true := by
  obtain ⟨a1, a2, a3, a4, a5⟩ := h.all
  exact (ok_iff _).2 ⟨a2, a3, hl, a4, a5, hW, a1⟩

/-- What Sync writes. -/
def newW (o : List (List UInt8)) (s : Nat) (D : Disk) : List Wr := allF (genF D.secs) (o.drop s) (usedN (o.take s))
theorem usedN_td (o : List (List UInt8)) (s : Nat) : usedN (o.take s) + usedN (o.drop s) = usedN o := by
  unfold usedN
  conv => rhs; rw [← List.take_append_drop s o, List.map_append, List.sum_append]

theorem newW_ok {o : List (List UInt8)} {s : Nat} {D : Disk} (hG : Good D) (hok : jOK o D.secs.length s) : Disk.ok { D with pend := newW o s D } = true := by
  obtain ⟨j1, j2, j3, j4, j5⟩ := hok
  have htd := usedN_td o s
  refine hG.with (by unfold newW; rw [allF_length]; omega) fun x hx => ?_
  obtain ⟨j, hj, rfl⟩ := List.getElem_of_mem hx
  have hj' : j < usedN (o.drop s) := by unfold newW at hj; rwa [allF_length] at hj
  obtain ⟨h1, h2, _⟩ := dataAt_get (g := genF D.secs) (at_ := usedN (o.take s)) hj'
  have e : (newW o s D)[j] = ⟨((usedN (o.take s) + j : Nat) : Int), dataAt (allF (genF D.secs) (o.drop s) (usedN (o.take s))) j⟩ := by
    have h3 : (newW o s D)[j]? = some ⟨((usedN (o.take s) + j : Nat) : Int), dataAt (allF (genF D.secs) (o.drop s) (usedN (o.take s))) j⟩ := h1
    rw [List.getElem?_eq_getElem hj] at h3; exact Option.some.inj h3
  rw [e]
  exact ⟨by dsimp only; omega, by dsimp only; omega, h2⟩

/-- The sectors after k writes. -/
def secsK (o : List (List UInt8)) (s : Nat) (D : Disk) (k : Nat) : List (List UInt8) := performF D.secs ((newW o s D).take k)
theorem secsK_len (o : List (List UInt8)) (s : Nat) (D : Disk) (k : Nat) : (secsK o s D k).length = D.secs.length := performF_length _ _
theorem secsK_at {o : List (List UInt8)} {s : Nat} {D : Disk} (hok : jOK o D.secs.length s) {k : Nat} (hk : k ≤ usedN (o.drop s)) (i : Nat) : secAt (secsK o s D k) i = if usedN (o.take s) ≤ i ∧ i < usedN (o.take s) + k then dataAt (newW o s D) (i - usedN (o.take s)) else secAt D.secs i := by
  have htd := usedN_td o s
  have := hok.2.2.2.2
  exact perf_secAt k hk (by omega) i
theorem secsK_128 {o : List (List UInt8)} {s : Nat} {D : Disk} (hG : Good D) (hok : jOK o D.secs.length s) {k : Nat} (hk : k ≤ usedN (o.drop s)) : ∀ x ∈ secsK o s D k, x.length = 128 := by
  rw [secAt_iff]
  intro i hi
  rw [secsK_len] at hi
  rw [secsK_at hok hk]
  split
  · exact (dataAt_get (by omega)).2.1
  · exact hG.all.1 _ (secAt_mem hi)
theorem secsK_nb {o : List (List UInt8)} {s : Nat} {D : Disk} (hG : Good D) (hok : jOK o D.secs.length s) (g32 : genF D.secs < 2 ^ 32) {k : Nat} (hk : k ≤ usedN (o.drop s)) : NB (genF D.secs) (secsK o s D k) := by
  unfold NB
  rw [secAt_iff]
  intro i hi
  rw [secsK_len] at hi
  rw [secsK_at hok hk]
  split
  · obtain ⟨_, _, h1, h2⟩ := dataAt_get (g := genF D.secs) (r := o.drop s) (at_ := usedN (o.take s)) (j := i - usedN (o.take s)) (by omega)
    unfold newW
    rw [h1, h2, numN_numB 4 _ (by omega)]
    exact ⟨Nat.le_refl _, Nat.le_refl _⟩
  · have := genF_nb hG.all.1 _ (secAt_mem hi); omega

/-- Sync, where the disk does not stop. -/
theorem jsync_runs {o : List (List UInt8)} {s : Nat} {D : Disk} (hG : Good D) (hok : jOK o D.secs.length s) (hr : recordsR D.secs = o.take s) (g32 : genF D.secs < 2 ^ 32) (hne : s < o.length) (hl : ¬ (0 ≤ D.left ∧ D.left < (usedN (o.drop s) : Int))) :
    ∃ secs left, jsyncF o D.secs.length s D = (((o, (D.secs.length : Int), (o.length : Int)), ⟨secs, [], left, false⟩), 0) ∧ Good ⟨secs, [], left, false⟩ ∧ secs.length = D.secs.length ∧ recordsR secs = o ∧ NB (genF D.secs) secs ∧ (D.left = -1 → left = -1) := by
  have htd := usedN_td o s
  obtain ⟨a1, a2, a3, a4, a5⟩ := hG.all
  have hwl : (newW o s D).length = usedN (o.drop s) := allF_length _ _ _
  have hS : syncF { D with pend := newW o s D } = (⟨performF D.secs (newW o s D), [], if 0 ≤ D.left then D.left - (newW o s D).length else D.left, false⟩, 0) := by
    unfold syncF
    rw [newW_ok hG hok, hG.runs, if_pos (by decide), if_neg (by rw [hwl]; exact hl)]
  have hJ := jsyncF_good o s D hok hG.ok hG.runs (by rw [hG.none]; rfl)
  rw [if_neg (by rintro (h | h); exact h hr; omega), if_neg (by omega)] at hJ
  have hS' : syncF { D with pend := allF (genF D.secs) (o.drop s) (usedN (o.take s)) } = _ := hS
  rw [hS', if_neg (by simp)] at hJ
  have hkk : secsK o s D (usedN (o.drop s)) = performF D.secs (newW o s D) := by unfold secsK; rw [← hwl, List.take_length]
  refine ⟨performF D.secs (newW o s D), _, hJ, ?_, by rw [performF_length], ?_, ?_, ?_⟩
  · rw [← hkk]
    refine good_of (secsK_128 hG hok (Nat.le_refl _)) (by rw [secsK_len]; exact a2) (by rw [secsK_len]; exact a3) ?_ ?_
    · split <;> omega
    · split <;> omega
  · rw [← hkk]
    have h := recs_after (secs := D.secs) (o := secsK o s D (usedN (o.drop s))) (rest := o.drop s) (g := genF D.secs) (k := usedN (o.drop s)) a1 (genF_pos _ a1) g32 (fun x hx => (genF_nb a1 x hx).1) (secsK_len _ _ _ _) (by omega)
      (fun e => by have := congrArg List.length e; rw [List.length_drop] at this; simp at this; omega) (Nat.le_refl _) (by rw [hr]; have := hok.2.2.2.2; omega)
      (fun i hi => by rw [hr] at hi; rw [secsK_at hok (Nat.le_refl _), if_neg (by omega)])
      (fun j hj => by rw [hr, secsK_at hok (Nat.le_refl _), if_pos (by omega), Nat.add_sub_cancel_left]; rfl)
      (by
        rw [hr]
        by_cases he : D.secs.length ≤ usedN (o.take s) + usedN (o.drop s)
        · left; rw [secsK_len]; exact he
        · right; right
          refine ⟨rfl, ?_⟩
          rw [secsK_at hok (Nat.le_refl _), if_neg (by omega)]
          exact (genF_nb a1 _ (secAt_mem (by omega))).1)
    rw [h, hr, done_all, List.take_length, List.take_append_drop]
  · rw [← hkk]; exact secsK_nb hG hok g32 (Nat.le_refl _)
  · intro e; rw [e]; rfl

theorem torn_gen {x : Wr} {old : List UInt8} (hx : x.data.length = 128) (ho : old.length = 128) : (tornF x old).length = 128 ∧ (tornF x old).take 4 = x.data.take 4 ∧ (tornF x old).drop 124 = old.drop 124 := by
  unfold tornF
  refine ⟨by simp; omega, ?_, ?_⟩
  · rw [List.take_append_of_le_length (by simp; omega), List.take_take]; rfl
  · rw [List.drop_append, List.drop_drop, List.drop_eq_nil_of_le (by simp; omega), List.nil_append, List.length_take]
    congr 1; omega

/-- Sync, where the disk stops. -/
theorem jsync_stops {o : List (List UInt8)} {s : Nat} {D : Disk} (hG : Good D) (hok : jOK o D.secs.length s) (hr : recordsR D.secs = o.take s) (g32 : genF D.secs < 2 ^ 32) (hne : s < o.length) (hl : 0 ≤ D.left ∧ D.left < (usedN (o.drop s) : Int)) :
    ∃ secs r, jsyncF o D.secs.length s D = ((([], 0, 0), ⟨secs, [], 0, true⟩), 40) ∧ Good ⟨secs, [], -1, false⟩ ∧ secs.length = D.secs.length ∧ s ≤ r ∧ r ≤ o.length ∧ recordsR secs = o.take r ∧ NB (genF D.secs) secs := by
  have htd := usedN_td o s
  obtain ⟨a1, a2, a3, a4, a5⟩ := hG.all
  have hwl : (newW o s D).length = usedN (o.drop s) := allF_length _ _ _
  obtain ⟨k, hk⟩ := Int.eq_ofNat_of_zero_le hl.1
  have hku : k < usedN (o.drop s) := by omega
  have hju := hok.2.2.2.2
  obtain ⟨d1, d2, d3, d4⟩ := dataAt_get (g := genF D.secs) (at_ := usedN (o.take s)) hku
  have hd : (dataAt (newW o s D) k).length = 128 := d2
  have hn : nthW (newW o s D) k = ⟨((usedN (o.take s) + k : Nat) : Int), dataAt (newW o s D) k⟩ := by
    unfold nthW
    rw [List.getD_eq_getElem?_getD]
    have : (newW o s D)[k]? = _ := d1
    rw [this]; rfl
  have hold : ((secsK o s D k).getD (usedN (o.take s) + k) []) = secAt D.secs (usedN (o.take s) + k) := by
    rw [List.getD_eq_getElem?_getD]
    have := secsK_at hok (D := D) (Nat.le_of_lt hku) (usedN (o.take s) + k)
    rw [if_neg (by omega)] at this
    exact this
  have ho128 : (secAt D.secs (usedN (o.take s) + k)).length = 128 := a1 _ (secAt_mem (by omega))
  obtain ⟨t1, t2, t3⟩ := torn_gen (x := ⟨((usedN (o.take s) + k : Nat) : Int), dataAt (newW o s D) k⟩) hd ho128
  have hS : syncF { D with pend := newW o s D } = (⟨(secsK o s D k).set (usedN (o.take s) + k) (tornF ⟨((usedN (o.take s) + k : Nat) : Int), dataAt (newW o s D) k⟩ (secAt D.secs (usedN (o.take s) + k))), [], 0, true⟩, 40) := by
    unfold syncF
    rw [newW_ok hG hok, hG.runs, if_pos (by decide), if_pos (by rw [hwl]; exact hl)]
    unfold stopsF
    dsimp only
    rw [hk, Int.toNat_natCast, hn]
    dsimp only
    rw [Int.toNat_natCast]
    have e : performF D.secs ((newW o s D).take k) = secsK o s D k := rfl
    rw [e, hold]
  have hJ := jsyncF_good o s D hok hG.ok hG.runs (by rw [hG.none]; rfl)
  rw [if_neg (by rintro (h | h); exact h hr; omega), if_neg (by omega)] at hJ
  have hS' : syncF { D with pend := allF (genF D.secs) (o.drop s) (usedN (o.take s)) } = _ := hS
  rw [hS', if_pos (by simp)] at hJ
  generalize hT : tornF ⟨((usedN (o.take s) + k : Nat) : Int), dataAt (newW o s D) k⟩ (secAt D.secs (usedN (o.take s) + k)) = T at *
  have hlen : ((secsK o s D k).set (usedN (o.take s) + k) T).length = D.secs.length := by rw [List.length_set, secsK_len]
  have hat : ∀ i, secAt ((secsK o s D k).set (usedN (o.take s) + k) T) i = if i = usedN (o.take s) + k then T else if usedN (o.take s) ≤ i ∧ i < usedN (o.take s) + k then dataAt (newW o s D) (i - usedN (o.take s)) else secAt D.secs i := by
    intro i
    rw [secAt_set, secsK_len, secsK_at hok (Nat.le_of_lt hku)]
    by_cases h : i = usedN (o.take s) + k
    · rw [if_pos ⟨h, by omega⟩, if_pos h]
    · rw [if_neg (fun e => h e.1), if_neg h]
  have hTg : numN (T.take 4) = genF D.secs := by
    rw [t2]; show numN ((dataAt (newW o s D) k).take 4) = _
    have : (dataAt (newW o s D) k).take 4 = numB 4 (genF D.secs) := d3
    rw [this, numN_numB 4 _ (by omega)]
  have hTe : numN (T.drop 124) < genF D.secs := by rw [t3]; exact (genF_nb a1 _ (secAt_mem (by omega))).2
  refine ⟨(secsK o s D k).set (usedN (o.take s) + k) T, s + done (o.drop s) k, hJ, ?_, hlen, by omega, ?_, ?_, ?_⟩
  · refine good_of ?_ (by omega) (by omega) (by omega) (by omega)
    rw [secAt_iff]
    intro i hi
    rw [hlen] at hi
    rw [hat]
    split
    · exact t1
    · split
      · exact (dataAt_get (by omega)).2.1
      · exact a1 _ (secAt_mem hi)
  · have := done_le (o.drop s) k
    rw [List.length_drop] at this
    omega
  · have h := recs_after (secs := D.secs) (o := (secsK o s D k).set (usedN (o.take s) + k) T) (rest := o.drop s) (g := genF D.secs) (k := k) a1 (genF_pos _ a1) g32 (fun x hx => (genF_nb a1 x hx).1) hlen (by omega)
      (fun e => by have := congrArg List.length e; rw [List.length_drop] at this; simp at this; omega) (by omega) (by rw [hr]; omega)
      (fun i hi => by rw [hr] at hi; rw [hat, if_neg (by omega), if_neg (by omega)])
      (fun j hj => by rw [hr, hat, if_neg (by omega), if_pos (by omega), Nat.add_sub_cancel_left]; rfl)
      (by
        rw [hr]
        right; left
        rw [hat, if_pos rfl]
        cases e : goodR T (usedN (o.take s) + k) with
        | false => rfl
        | true =>
          exfalso
          unfold goodR headR at e
          simp only [Bool.and_eq_true, decide_eq_true_eq] at e
          have := e.1.2.1
          omega)
    rw [h, hr, List.take_add]
  · unfold NB
    rw [secAt_iff]
    intro i hi
    rw [hlen] at hi
    rw [hat]
    split
    · omega
    · split
      · obtain ⟨_, _, h1, h2⟩ := dataAt_get (g := genF D.secs) (r := o.drop s) (at_ := usedN (o.take s)) (j := i - usedN (o.take s)) (by omega)
        unfold newW
        rw [h1, h2, numN_numB 4 _ (by omega)]
        exact ⟨Nat.le_refl _, Nat.le_refl _⟩
      · have := genF_nb a1 _ (secAt_mem hi); omega

/-- Sync, where there is nothing to write. -/
theorem jsync_same {o : List (List UInt8)} {D : Disk} (hG : Good D) (hok : jOK o D.secs.length o.length) (hr : recordsR D.secs = o) (g32 : genF D.secs < 2 ^ 32) :
    jsyncF o D.secs.length o.length D = (((o, (D.secs.length : Int), (o.length : Int)), D), 0) := by
  have hJ := jsyncF_good o o.length D hok hG.ok hG.runs (by rw [hG.none]; rfl)
  rw [if_neg (by rintro (h | h); exact h (by rw [hr, List.take_length]); omega), if_pos rfl] at hJ
  exact hJ
theorem open_good {D : Disk} (hG : Good D) : openF D = ((recordsR D.secs, (D.secs.length : Int), ((recordsR D.secs).length : Int)), 0) := by
  unfold openF
  rw [if_pos hG.ok, if_neg (by rw [hG.runs]; decide), if_pos (by rw [hG.none]; rfl)]

end Go.Proofs.Ytmghnjahjeinnaa
