/- Plain laws: the checksum notices a changed byte. No program in sight. -/
import Derived.Test.YtmghnjahjeinnaaNd
namespace Go.Proofs.Ytmghnjahjeinnaa
open Go.Fr Go.Kx

theorem xor_can (a b : Nat) : (a ^^^ b) ^^^ b = a := by rw [Nat.xor_assoc, Nat.xor_self, Nat.xor_zero]
theorem xor_inj {a b c : Nat} (h : a ^^^ c = b ^^^ c) : a = b := by rw [← xor_can a c, h, xor_can]
theorem crcBit_inj {n m : Nat} (hn : n < 2 ^ 32) (hm : m < 2 ^ 32) (h : crcBit n = crcBit m) : n = m := by
  unfold crcBit at h
  rw [Nat.and_one_is_mod, Nat.and_one_is_mod] at h
  rcases Nat.mod_two_eq_zero_or_one n with en | en <;> rcases Nat.mod_two_eq_zero_or_one m with em | em
  · rw [en, em] at h
    have := xor_inj h
    omega
  · exfalso
    rw [en, em] at h
    simp only [Nat.mul_zero, Nat.zero_mod, Nat.xor_zero, Nat.mul_one] at h
    have h2 : (3988292384 % 2 ^ 32 : Nat) = n / 2 ^ 1 ^^^ m / 2 ^ 1 := by
      rw [h, Nat.xor_comm (m / 2 ^ 1), xor_can]
    have h3 : n / 2 ^ 1 ^^^ m / 2 ^ 1 < 2 ^ 31 := Nat.xor_lt_two_pow (by omega) (by omega)
    omega
  · exfalso
    rw [en, em] at h
    simp only [Nat.mul_zero, Nat.zero_mod, Nat.xor_zero, Nat.mul_one] at h
    have h2 : (3988292384 % 2 ^ 32 : Nat) = m / 2 ^ 1 ^^^ n / 2 ^ 1 := by
      rw [← h, Nat.xor_comm (n / 2 ^ 1), xor_can]
    have h3 : m / 2 ^ 1 ^^^ n / 2 ^ 1 < 2 ^ 31 := Nat.xor_lt_two_pow (by omega) (by omega)
    omega
  · rw [en, em] at h
    have := xor_inj h
    omega
theorem crcBits_inj {n m : Nat} (hn : n < 2 ^ 32) (hm : m < 2 ^ 32) : ∀ k, crcBits k n = crcBits k m → n = m
  | 0, h => h
  | k + 1, h => crcBits_inj hn hm k (crcBit_inj (crcBits_lt k n hn) (crcBits_lt k m hm) h)
theorem crc_fold {n m : Nat} (hn : n < 2 ^ 32) (hm : m < 2 ^ 32) (hne : n ≠ m) : ∀ (q : List UInt8), q.foldl (fun n c => crcBits 8 (n ^^^ c.toNat)) n ≠ q.foldl (fun n c => crcBits 8 (n ^^^ c.toNat)) m := by
  intro q
  induction q generalizing n m with
  | nil => exact hne
  | cons c q ih =>
    have hc := c.toNat_lt
    have hx : n ^^^ c.toNat < 2 ^ 32 := Nat.xor_lt_two_pow hn (by omega)
    have hy : m ^^^ c.toNat < 2 ^ 32 := Nat.xor_lt_two_pow hm (by omega)
    refine ih (crcBits_lt 8 _ hx) (crcBits_lt 8 _ hy) fun e => hne (xor_inj (crcBits_inj hx hy 8 e))
theorem crc_diff (p q : List UInt8) {c d : UInt8} (h : c ≠ d) : sumF (p ++ c :: q) ≠ sumF (p ++ d :: q) := by
  intro e
  unfold sumF at e
  rw [Nat.xor_comm, Nat.xor_comm (2 ^ 32 - 1)] at e
  have e2 := xor_inj e
  unfold crcF at e2
  rw [List.foldl_append, List.foldl_append, List.foldl_cons, List.foldl_cons] at e2
  have hp := crc_lt p
  unfold crcF at hp
  generalize p.foldl (fun n c => crcBits 8 (n ^^^ c.toNat)) 4294967295 = s at e2 hp
  have hc := c.toNat_lt
  have hd := d.toNat_lt
  have hx : s ^^^ c.toNat < 2 ^ 32 := Nat.xor_lt_two_pow hp (by omega)
  have hy : s ^^^ d.toNat < 2 ^ 32 := Nat.xor_lt_two_pow hp (by omega)
  refine crc_fold (crcBits_lt 8 _ hx) (crcBits_lt 8 _ hy) (fun e3 => ?_) q e2
  have e4 := crcBits_inj hx hy 8 e3
  rw [Nat.xor_comm, Nat.xor_comm s] at e4
  exact h (UInt8.toNat_inj.1 (xor_inj e4))

theorem set_ne {l : List UInt8} {i : Nat} {x : UInt8} (hi : i < l.length) (hx : x ≠ l[i]) : l.set i x ≠ l := fun e => by
  have h : (l.set i x)[i]'(by simpa using hi) = l[i] := by simp only [e]
  rw [List.getElem_set_self] at h
  exact hx h
theorem num_inj {a b : List UInt8} (hl : a.length = b.length) (h : numN a = numN b) : a = b := by
  rw [← numB_numN a, ← numB_numN b, hl, h]
theorem sum_set {l : List UInt8} {i : Nat} {x : UInt8} (hi : i < l.length) (hx : x ≠ l[i]) : sumF (l.set i x) ≠ sumF l := by
  have e1 : l.set i x = l.take i ++ x :: l.drop (i + 1) := by rw [List.set_eq_take_append_cons_drop, if_pos hi]
  have e2 : l = l.take i ++ l[i] :: l.drop (i + 1) := by
    rw [← List.drop_eq_getElem_cons hi, List.take_append_drop]
  rw [e1]
  conv => rhs; rw [e2]
  exact crc_diff _ _ hx
theorem good_parts {A C B E : List UInt8} {n : Nat} (hA : A.length = 4) (hC : C.length = 4) (hB : B.length = 116) (h : goodR (A ++ (C ++ (B ++ E))) n = true) : numN A = numN E ∧ numN C = sumF B := by
  unfold goodR headR at h
  simp only [Bool.and_eq_true, decide_eq_true_eq] at h
  have h1 := h.1.2.1
  have h2 := h.1.2.2.1
  have e1 : (A ++ (C ++ (B ++ E))).take 4 = A := List.take_left' hA
  have e2 : (A ++ (C ++ (B ++ E))).drop 124 = E := by
    rw [← List.append_assoc, ← List.append_assoc, List.drop_left' (by simp only [List.length_append]; omega)]
  have e3 : ((A ++ (C ++ (B ++ E))).take 8).drop 4 = C := by
    rw [← List.append_assoc, List.take_left' (by simp only [List.length_append]; omega), List.drop_left' hA]
  have e4 : ((A ++ (C ++ (B ++ E))).take 124).drop 8 = B := by
    rw [← List.append_assoc, ← List.append_assoc, List.take_left' (by simp only [List.length_append]; omega), List.drop_left' (by simp only [List.length_append]; omega)]
  rw [e1, e2] at h1
  rw [e3, e4] at h2
  refine ⟨h1, ?_⟩
  rw [← h2, Nat.mod_eq_of_lt]
  have := numN_lt C
  rw [hC] at this
  omega

/-- A changed byte is noticed. -/
theorem damaged {g n : Nat} {kind : UInt8} {b : List UInt8} (hb : b.length ≤ 112) {a : Nat} (ha : a < (encF g n kind b).length) {x : UInt8} (hx : x ≠ (encF g n kind b)[a]) : goodR ((encF g n kind b).set a x) n = false := by
  cases e : goodR ((encF g n kind b).set a x) n with
  | false => rfl
  | true =>
    exfalso
    have hl := encF_length g n kind b hb
    have hbd := bodyF_length n kind b hb
    have henc := encF_eq g n kind b hb
    have hs := sum_lt (bodyF n kind b)
    generalize encF g n kind b = s at *
    generalize bodyF n kind b = B at *
    subst henc
    have lA : (numB 4 g).length = 4 := numB_length 4 g
    have lC : (numB 4 (sumF B)).length = 4 := numB_length 4 _
    have nC : numN (numB 4 (sumF B)) = sumF B := numN_numB 4 _ (by omega)
    generalize numB 4 g = A at *
    generalize hCC : numB 4 (sumF B) = C at *
    by_cases h1 : a < 4
    · rw [List.set_append, if_pos (by omega)] at e
      rw [List.getElem_append_left (by omega)] at hx
      obtain ⟨p1, p2⟩ := good_parts (by rw [List.length_set]; exact lA) lC hbd e
      exact set_ne (by omega) hx (num_inj (by rw [List.length_set]) p1)
    · rw [List.set_append, if_neg (by omega)] at e
      rw [List.getElem_append_right (by omega)] at hx
      by_cases h2 : a < 8
      · rw [List.set_append, if_pos (by omega)] at e
        rw [List.getElem_append_left (by omega)] at hx
        obtain ⟨p1, p2⟩ := good_parts lA (by rw [List.length_set]; exact lC) hbd e
        exact set_ne (by omega) hx (num_inj (by rw [List.length_set]) (by rw [p2, nC]))
      · rw [List.set_append, if_neg (by omega)] at e
        rw [List.getElem_append_right (by omega)] at hx
        by_cases h3 : a < 124
        · rw [List.set_append, if_pos (by omega)] at e
          rw [List.getElem_append_left (by omega)] at hx
          obtain ⟨p1, p2⟩ := good_parts lA lC (by rw [List.length_set]; exact hbd) e
          rw [nC] at p2
          exact sum_set (by omega) hx p2.symm
        · rw [List.set_append, if_neg (by omega)] at e
          rw [List.getElem_append_right (by omega)] at hx
          obtain ⟨p1, p2⟩ := good_parts lA lC hbd e
          simp only [List.length_append] at hl
          exact set_ne (by omega) hx (num_inj (by rw [List.length_set]) p1.symm)

theorem allF_enc (g : Nat) : ∀ (r : List (List UInt8)) (at_ j : Nat), j < usedN r → ∃ kind b, b.length ≤ 112 ∧ dataAt (allF g r at_) j = encF g (at_ + j) kind b
  | [], at_, j, h => by simp [usedN] at h
  | b :: r, at_, j, h => by
    have e : usedN (b :: r) = secsN b.length + usedN r := by simp [usedN]
    by_cases hj : j < secsN b.length
    · exact ⟨_, _, (piece_len hj).1, by unfold dataAt; rw [allF_cons_get0 g b r at_ j hj]; rfl⟩
    · obtain ⟨kind, x, h1, h2⟩ := allF_enc g r (at_ + secsN b.length) (j - secsN b.length) (by omega)
      refine ⟨kind, x, h1, ?_⟩
      rw [show at_ + j = at_ + secsN b.length + (j - secsN b.length) by omega, ← h2]
      unfold dataAt
      conv => lhs; rw [show j = secsN b.length + (j - secsN b.length) by omega, allF_cons_get]

theorem done_is : ∀ (o : List (List UInt8)) (k w : Nat), w ≤ o.length → usedN (o.take w) ≤ k → (w = o.length ∨ k < usedN (o.take (w + 1))) → done o k = w
  | [], k, w, h, _, _ => by simp at h; subst h; rfl
  | b :: r, k, 0, _, _, h => by
    have hp := secs_pos b.length
    rcases h with h | h
    · simp at h
    · simp only [Nat.zero_add, List.take_succ_cons, List.take_zero, usedN, List.map_cons, List.map_nil, List.sum_cons, List.sum_nil, Nat.add_zero] at h
      unfold done
      rw [if_neg (by omega)]
  | b :: r, k, w + 1, hw, h1, h2 => by
    simp only [List.length_cons] at hw h2
    simp only [List.take_succ_cons, usedN, List.map_cons, List.sum_cons] at h1 h2
    unfold done
    rw [if_pos (by omega), done_is r (k - secsN b.length) w (by omega) (by unfold usedN; omega) (by unfold usedN; omega)]

/-- The law: what lies ahead of a damaged sector is read. -/
theorem damage_plain {o : List (List UInt8)} {D : Disk} (hG : Good D) (hl : D.left = -1) (hr : recordsR D.secs = []) (g32 : genF D.secs < 2 ^ 32) (hok : jOK o D.secs.length 0) (hne : o ≠ []) :
    ∃ D' : Disk, jsyncF o D.secs.length 0 D = (((o, (D.secs.length : Int), (o.length : Int)), D'), 0) ∧ Good D' ∧ D'.left = -1 ∧ D'.secs.length = D.secs.length ∧
      ∀ k a x, k < usedN o → (ha : a < 128) → x ≠ (secAt D'.secs k).getD a 0 → recordsR (D'.secs.set k ((secAt D'.secs k).set a x)) = o.take (done o k) := by
  obtain ⟨a1, a2, a3, a4, a5⟩ := hG.all
  have hne' : 0 < o.length := by rcases o with _ | ⟨x, r⟩; exact absurd rfl hne; simp
  have hwl : (newW o 0 D).length = usedN o := allF_length _ _ _
  have hS : syncF { D with pend := newW o 0 D } = (⟨performF D.secs (newW o 0 D), [], -1, false⟩, 0) := by
    unfold syncF
    rw [newW_ok hG hok, hG.runs, if_pos (by decide), if_neg (by rw [hl]; omega), hl, if_neg (by decide)]
  have hJ := jsyncF_good o 0 D hok hG.ok hG.runs (by rw [hG.none]; rfl)
  rw [if_neg (by rintro (h | h); exact h (by rw [hr]; rfl); omega), if_neg (by omega)] at hJ
  have hS' : syncF { D with pend := allF (genF D.secs) (o.drop 0) (usedN (o.take 0)) } = _ := hS
  rw [hS', if_neg (by simp)] at hJ
  have hkk : secsK o 0 D (usedN o) = performF D.secs (newW o 0 D) := by unfold secsK; rw [← hwl, List.take_length]
  have h0 : usedN (o.take 0) = 0 := by simp [usedN]
  have hju := hok.2.2.2.2
  have hat : ∀ i, secAt (secsK o 0 D (usedN o)) i = if i < usedN o then dataAt (newW o 0 D) i else secAt D.secs i := by
    intro i
    have hh := secsK_at (D := D) hok (Nat.le_refl (usedN (o.drop 0))) i
    rw [h0, List.drop_zero] at hh
    rw [hh]
    by_cases h : i < usedN o
    · rw [if_pos ⟨Nat.zero_le _, by omega⟩, if_pos h, Nat.sub_zero]
    · rw [if_neg (fun e => h (by have := e.2; omega)), if_neg h]
  refine ⟨⟨performF D.secs (newW o 0 D), [], -1, false⟩, hJ, ?_, rfl, by dsimp only; rw [performF_length], fun k a x hk ha hx => ?_⟩
  · rw [← hkk]
    exact good_of (secsK_128 hG hok (Nat.le_refl _)) (by rw [secsK_len]; exact a2) (by rw [secsK_len]; exact a3) (by decide) (by decide)
  · dsimp only at hx ⊢
    rw [← hkk] at hx ⊢
    have hkl : k < (secsK o 0 D (usedN o)).length := by rw [secsK_len]; omega
    have hsk : secAt (secsK o 0 D (usedN o)) k = dataAt (newW o 0 D) k := by rw [hat, if_pos hk]
    obtain ⟨kind, b, hb, hbe⟩ := allF_enc (genF D.secs) (o.drop 0) (usedN (o.take 0)) k hk
    have hbe' : dataAt (newW o 0 D) k = encF (genF D.secs) k kind b := by
      have : dataAt (newW o 0 D) k = _ := hbe
      rw [this, h0, Nat.zero_add]
    rw [hsk, hbe'] at hx ⊢
    have hel := encF_length (genF D.secs) k kind b hb
    have hbad := damaged (g := genF D.secs) (n := k) (kind := kind) hb (a := a) (by omega) (x := x) (by rw [List.getD_eq_getElem?_getD, List.getElem?_eq_getElem (by omega)] at hx; exact hx)
    generalize (encF (genF D.secs) k kind b).set a x = X at hbad ⊢
    have h := recs_after (secs := D.secs) (o := (secsK o 0 D (usedN o)).set k X) (rest := o) (g := genF D.secs) (k := k) a1 (genF_pos _ a1) g32 (fun x hx => (genF_nb a1 x hx).1) (by rw [List.length_set, secsK_len]) (by omega) hne (by omega)
      (by rw [hr]; show usedN [] + k ≤ _; have : usedN [] = 0 := rfl; omega)
      (fun i hi => by rw [hr] at hi; simp [usedN] at hi)
      (fun j hj => by
        have e0 : usedN (recordsR D.secs) = 0 := by rw [hr]; rfl
        rw [e0, Nat.zero_add, secAt_set, if_neg (by omega), hat, if_pos (by omega)]
        unfold newW; rw [h0, List.drop_zero])
      (by
        have e0 : usedN (recordsR D.secs) = 0 := by rw [hr]; rfl
        rw [e0, Nat.zero_add]
        right; left
        rw [secAt_set, if_pos ⟨rfl, hkl⟩]
        exact hbad)
    rw [h, hr]; rfl

end Go.Proofs.Ytmghnjahjeinnaa
