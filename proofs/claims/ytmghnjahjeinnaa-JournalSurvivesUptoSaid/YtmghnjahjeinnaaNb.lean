/- Plain laws of the journal: sectors that Sync wrote are read. No program in sight. -/
import Derived.Test.YtmghnjahjeinnaaNa
import Derived.Test.YtmghnjahjeinnaaJour4
namespace Go.Proofs.Ytmghnjahjeinnaa
open Go.Fr Go.Kx

theorem enc_take4 (g n : Nat) (kind : UInt8) (b : List UInt8) (hb : b.length ≤ 112) : (encF g n kind b).take 4 = numB 4 g := by
  rw [encF_eq g n kind b hb, List.take_left' (numB_length 4 g)]
theorem enc_drop124 (g n : Nat) (kind : UInt8) (b : List UInt8) (hb : b.length ≤ 112) : (encF g n kind b).drop 124 = numB 4 g := by
  rw [encF_eq g n kind b hb, ← List.append_assoc, ← List.append_assoc, List.drop_left' (by simp only [List.length_append, numB_length, bodyF_length n kind b hb])]
theorem enc_split (g n : Nat) (kind : UInt8) (b : List UInt8) (hb : b.length ≤ 112) : ∃ A : List UInt8, ∃ Z : List UInt8, A.length = 10 ∧ encF g n kind b = A ++ (kind :: UInt8.ofNat b.length :: (b ++ Z)) :=
  ⟨numB 4 g ++ (numB 4 (sumF (bodyF n kind b)) ++ numB 2 n), List.replicate (112 - b.length) 0 ++ numB 4 g, by simp [numB_length], by rw [encF_eq g n kind b hb]; conv => lhs; unfold bodyF
                                                                                                                                      simp [bodyF]⟩
theorem ofNat_small {n : Nat} (h : n ≤ 112) : (UInt8.ofNat n).toNat = n := by
  rw [UInt8.toNat_ofNat']; exact Nat.mod_eq_of_lt (by omega)
theorem enc_10 (g n : Nat) (kind : UInt8) (b : List UInt8) (hb : b.length ≤ 112) : (encF g n kind b)[10]?.getD 0 = kind := by
  obtain ⟨A, Z, hA, e⟩ := enc_split g n kind b hb
  rw [e, List.getElem?_append_right (by omega), hA]; rfl
theorem enc_11 (g n : Nat) (kind : UInt8) (b : List UInt8) (hb : b.length ≤ 112) : (encF g n kind b)[11]?.getD 0 = UInt8.ofNat b.length := by
  obtain ⟨A, Z, hA, e⟩ := enc_split g n kind b hb
  rw [e, List.getElem?_append_right (by omega), hA]; rfl
theorem enc_12 (g n : Nat) (kind : UInt8) (b : List UInt8) (hb : b.length ≤ 112) : ((encF g n kind b).drop 12).take b.length = b := by
  obtain ⟨A, Z, hA, e⟩ := enc_split g n kind b hb
  rw [e, show A ++ (kind :: UInt8.ofNat b.length :: (b ++ Z)) = (A ++ [kind, UInt8.ofNat b.length]) ++ (b ++ Z) by simp, List.drop_left' (by simp [hA]), List.take_left]
theorem enc_kind (g n : Nat) (kind : UInt8) (b : List UInt8) (hb : b.length ≤ 112) : kindS (encF g n kind b) = kind.toNat := by
  unfold kindS; rw [enc_10 g n kind b hb]
theorem enc_pay (g n : Nat) (kind : UInt8) (b : List UInt8) (hb : b.length ≤ 112) : payS (encF g n kind b) = b := by
  unfold payS
  rw [enc_11 g n kind b hb, ofNat_small hb, List.drop_take, Nat.add_sub_cancel_left, enc_12 g n kind b hb]
theorem enc_good (g n : Nat) (kind : UInt8) (b : List UInt8) (hb : b.length ≤ 112) (hg : 0 < g) (hg2 : g < 2 ^ 32) (hn : n < 2 ^ 16) (hk : kind.toNat ≤ 3) (h1 : 2 ≤ kind.toNat ∨ b.length = 112) (h2 : kind.toNat % 2 = 1 ∨ b.length ≠ 0) : goodR (encF g n kind b) n = true := by
  have hl := encF_length g n kind b hb
  rw [← good_same _ n hl hn]
  unfold goodF
  rw [enc_10 g n kind b hb, enc_11 g n kind b hb, ofNat_small hb, enc_12 g n kind b hb, enc_take4 g n kind b hb, getF_num _ (by rw [numB_length]; omega), numN_numB 4 g (by omega)]
  have hp := (pre_iff b.length kind.toNat hk hb).2 ⟨by omega, by omega⟩
  unfold preF
  simp only [Bool.and_eq_true, decide_eq_true_eq, beq_self_eq_true, and_true, Bool.or_eq_true]
  exact ⟨⟨hb, hk, hp.1, hp.2⟩, hg⟩

/-- The kind of the sector j of n. -/
def kindW (n j : Nat) (kind : UInt8) : UInt8 := if j + 1 = n then UInt8.ofNat ((if j = 0 then kind else 0).toNat ||| 2) else if j = 0 then kind else 0
theorem kindW_nat (n j : Nat) : (kindW n j 1).toNat = (if j = 0 then 1 else 0) + (if j + 1 = n then 2 else 0) := by
  unfold kindW
  by_cases h1 : j = 0 <;> by_cases h2 : j + 1 = n
  · rw [if_pos h2, if_pos h1, if_pos h1, if_pos h2]; rfl
  · rw [if_neg h2, if_pos h1, if_pos h1, if_neg h2]; rfl
  · rw [if_pos h2, if_neg h1, if_neg h1, if_pos h2]; rfl
  · rw [if_neg h2, if_neg h1, if_neg h1, if_neg h2]; rfl
theorem wsF_get (g : Nat) : ∀ (n at_ : Nat) (kind : UInt8) (b : List UInt8) (j : Nat), j < n → (wsF g n at_ kind b)[j]? = some ⟨((at_ + j : Nat) : Int), encF g (at_ + j) (kindW n j kind) ((b.drop (112 * j)).take 112)⟩
  | n + 1, at_, kind, b, 0, _ => by
    unfold kindW
    simp [wsF]
  | n + 1, at_, kind, b, j + 1, h => by
    have hk : kindW (n + 1) (j + 1) kind = kindW n j 0 := by
      unfold kindW
      rw [if_neg (show ¬ j + 1 = 0 by omega)]
      by_cases h1 : j + 1 = n
      · rw [if_pos (by omega), if_pos h1]; split <;> rfl
      · rw [if_neg (by omega), if_neg h1]; split <;> rfl
    have := wsF_get g n (at_ + 1) 0 (b.drop 112) j (by omega)
    simp only [wsF, List.getElem?_cons_succ]
    rw [this, hk, List.drop_drop, show at_ + 1 + j = at_ + (j + 1) by omega, show 112 + 112 * j = 112 * (j + 1) by omega]

theorem secs_pos (n : Nat) : 1 ≤ secsN n := by unfold secsN; omega
def dataAt (W : List Wr) (j : Nat) : List UInt8 := (W[j]?.map (·.data)).getD []
theorem piece_len {b : List UInt8} {j : Nat} (h : j < secsN b.length) : ((b.drop (112 * j)).take 112).length ≤ 112 ∧ (j + 1 < secsN b.length → ((b.drop (112 * j)).take 112).length = 112) ∧ (0 < j → ((b.drop (112 * j)).take 112).length ≠ 0) := by
  unfold secsN at h ⊢
  rw [List.length_take, List.length_drop]
  omega
theorem secs_take {b : List UInt8} : b.take (112 * secsN b.length) = b := List.take_of_length_le (by unfold secsN; omega)

/-- Sectors at..at+k-1 hold the first k sectors of a record. -/
structure Holds (o : List (List UInt8)) (g at_ : Nat) (b : List UInt8) (k : Nat) : Prop where
  g0 : 0 < g
  g32 : g < 2 ^ 32
  small : o.length < 2 ^ 16
  le : k ≤ secsN b.length
  len : at_ + k ≤ o.length
  sec : ∀ j, j < k → secAt o (at_ + j) = encF g (at_ + j) (kindW (secsN b.length) j 1) ((b.drop (112 * j)).take 112)
theorem Holds.gen {o : List (List UInt8)} {g at_ : Nat} {b : List UInt8} {k : Nat} (h : Holds o g at_ b k) {j : Nat} (hj : j < k) : numN ((secAt o (at_ + j)).take 4) = g := by
  have := h.le
  have := h.g32
  rw [h.sec j hj, enc_take4 _ _ _ _ (piece_len (by omega)).1, numN_numB 4 g (by omega)]
theorem Holds.bad {o : List (List UInt8)} {g at_ : Nat} {b : List UInt8} {k : Nat} (h : Holds o g at_ b k) {j : Nat} (hj : j < k) : badR o at_ j = false := by
  have hle := h.le
  have hl := h.len
  have hs := h.small
  obtain ⟨p1, p2, p3⟩ := piece_len (b := b) (j := j) (by omega)
  have hkn := kindW_nat (secsN b.length) j
  have hgood : goodR (secAt o (at_ + j)) (at_ + j) = true := by
    rw [h.sec j hj]
    refine enc_good _ _ _ _ p1 h.g0 h.g32 (by omega) ?_ ?_ ?_ <;> rw [hkn]
    · split <;> split <;> omega
    · by_cases e : j + 1 = secsN b.length
      · left; rw [if_pos e]; omega
      · right; exact p2 (by omega)
    · by_cases e : j = 0
      · left; rw [if_pos e]; split <;> omega
      · right; exact p3 (by omega)
  have hkind : kindS (secAt o (at_ + j)) = (if j = 0 then 1 else 0) + (if j + 1 = secsN b.length then 2 else 0) := by rw [h.sec j hj, enc_kind _ _ _ _ p1, hkn]
  unfold badR
  rw [hgood, hkind, h.gen hj]
  have h0 := h.gen (j := 0) (by omega)
  rw [Nat.add_zero] at h0
  rw [h0]
  by_cases e : j = 0
  · subst e
    simp
    split <;> omega
  · simp [e]
    split <;> omega
theorem Holds.kind {o : List (List UInt8)} {g at_ : Nat} {b : List UInt8} {k : Nat} (h : Holds o g at_ b k) {j : Nat} (hj : j < k) : kindS (secAt o (at_ + j)) = (if j = 0 then 1 else 0) + (if j + 1 = secsN b.length then 2 else 0) := by
  have hle := h.le
  obtain ⟨p1, p2, p3⟩ := piece_len (b := b) (j := j) (by omega)
  rw [h.sec j hj, enc_kind _ _ _ _ p1, kindW_nat]
theorem Holds.reco {o : List (List UInt8)} {g at_ : Nat} {b : List UInt8} (h : Holds o g at_ b (secsN b.length)) : Rec o at_ (secsN b.length) ∧ paysR o at_ (secsN b.length) = b := by
  have hp := secs_pos b.length
  refine ⟨⟨hp, h.len, fun j hj => h.bad hj, fun j hj => ?_, fun j hj => ?_⟩, ?_⟩
  · rw [h.kind (by omega)]; split <;> split <;> omega
  · rw [h.kind (by omega)]; split <;> first | omega | (split <;> omega)
  · have key : ∀ k, k ≤ secsN b.length → paysR o at_ k = b.take (112 * k) := by
      intro k
      induction k with
      | zero => intro _; simp [paysR]
      | succ k ih =>
        intro hk
        obtain ⟨p1, p2, p3⟩ := piece_len (b := b) (j := k) (by omega)
        simp only [paysR]
        rw [ih (by omega), h.sec k (by omega), enc_pay _ _ _ _ p1, show 112 * (k + 1) = 112 * k + 112 by omega, List.take_add]
    rw [key _ (Nat.le_refl _), secs_take]
theorem Holds.stop {o : List (List UInt8)} {g at_ : Nat} {b : List UInt8} {k : Nat} (h : Holds o g at_ b k) (hk : k < secsN b.length) (hb : o.length ≤ at_ + k ∨ goodR (secAt o (at_ + k)) (at_ + k) = false) : (recordR o at_).2 = 0 := by
  refine record_stop k (fun j hj => ⟨h.bad hj, ?_⟩) ?_
  · rw [h.kind hj]; split <;> split <;> omega
  · rcases hb with hb | hb
    · exact .inl hb
    · right; unfold badR; rw [hb]; rfl

/-- How many records lie wholly in the first k sectors. -/
def done : List (List UInt8) → Nat → Nat
  | [], _ => 0
  | b :: r, k => if secsN b.length ≤ k then done r (k - secsN b.length) + 1 else 0
theorem done_le : ∀ (r : List (List UInt8)) (k : Nat), done r k ≤ r.length
  | [], _ => Nat.le_refl _
  | b :: r, k => by
    unfold done
    split
    · have := done_le r (k - secsN b.length); simp only [List.length_cons]; omega
    · exact Nat.zero_le _
theorem done_all : ∀ (r : List (List UInt8)), done r (usedN r) = r.length
  | [] => rfl
  | b :: r => by
    have h := done_all r
    have e : usedN (b :: r) = secsN b.length + usedN r := by simp [usedN]
    unfold done
    rw [if_pos (by omega), e, Nat.add_sub_cancel_left, h]; rfl

theorem allF_cons_get (g : Nat) (b : List UInt8) (r : List (List UInt8)) (at_ j : Nat) : (allF g (b :: r) at_)[secsN b.length + j]? = (allF g r (at_ + secsN b.length))[j]? := by
  simp only [allF]
  rw [List.getElem?_append_right (by rw [wsF_length]; omega), wsF_length, Nat.add_sub_cancel_left]
theorem allF_cons_get0 (g : Nat) (b : List UInt8) (r : List (List UInt8)) (at_ j : Nat) (h : j < secsN b.length) : (allF g (b :: r) at_)[j]? = some ⟨((at_ + j : Nat) : Int), encF g (at_ + j) (kindW (secsN b.length) j 1) ((b.drop (112 * j)).take 112)⟩ := by
  simp only [allF]
  rw [List.getElem?_append_left (by rw [wsF_length]; exact h), wsF_get g _ _ _ _ _ h]

/-- What follows the sectors that hold writes: nothing that is read on. -/
def Tail (o : List (List UInt8)) (g p : Nat) (all : Prop) : Prop := o.length ≤ p ∨ goodR (secAt o p) p = false ∨ (all ∧ numN ((secAt o p).take 4) < g)

theorem scan_new {o : List (List UInt8)} {g : Nat} (g0 : 0 < g) (g32 : g < 2 ^ 32) (small : o.length < 2 ^ 16) : ∀ (rest : List (List UInt8)) (at_ gen k : Nat), gen ≤ g → (rest = [] → gen = g) → k ≤ usedN rest → at_ + k ≤ o.length →
    (∀ j, j < k → secAt o (at_ + j) = dataAt (allF g rest at_) j) → Tail o g (at_ + k) (k = usedN rest) → ∃ j g', Scan o at_ gen (rest.take (done rest k)) j g' ∧ Halt o j g'
  | [], at_, gen, k, hg, hn, hk, hl, hs, ht => by
    have hk0 : k = 0 := by simpa [usedN] using hk
    subst hk0
    rw [Nat.add_zero] at ht
    refine ⟨at_, gen, .nil _ _, ?_⟩
    rcases ht with ht | ht | ht
    · exact .inl (record_out ht)
    · exact .inl (record_stop 0 (fun j hj => absurd hj (Nat.not_lt_zero j)) (.inr (by unfold badR; rw [Nat.add_zero, ht]; rfl)))
    · right; rw [hn rfl]; exact ht.2
  | b :: r, at_, gen, k, hg, _, hk, hl, hs, ht => by
    have e : usedN (b :: r) = secsN b.length + usedN r := by simp [usedN]
    have hp := secs_pos b.length
    by_cases hk1 : secsN b.length ≤ k
    · have hh : Holds o g at_ b (secsN b.length) := ⟨g0, g32, small, Nat.le_refl _, by omega, fun j hj => by rw [hs j (by omega)]; unfold dataAt; rw [allF_cons_get0 g b r at_ j hj]; rfl⟩
      obtain ⟨h1, h2⟩ := hh.reco
      have h3 := hh.gen (j := 0) (by omega)
      rw [Nat.add_zero] at h3
      obtain ⟨j, g', h4, h5⟩ := scan_new g0 g32 small r (at_ + secsN b.length) g (k - secsN b.length) (Nat.le_refl _) (fun _ => rfl) (by omega) (by omega)
        (fun j hj => by rw [show at_ + secsN b.length + j = at_ + (secsN b.length + j) by omega, hs _ (by omega)]; unfold dataAt; rw [allF_cons_get])
        (by rw [show at_ + secsN b.length + (k - secsN b.length) = at_ + k by omega]
            rcases ht with ht | ht | ht
            · exact .inl ht
            · exact .inr (.inl ht)
            · exact .inr (.inr ⟨by omega, ht.2⟩))
      refine ⟨j, g', ?_, h5⟩
      unfold done
      rw [if_pos hk1, List.take_succ_cons]
      have h6 := Scan.cons (rs := r.take (done r (k - secsN b.length))) (j := j) (g' := g') h1 (g := gen) (by omega) (by rw [h3]; exact h4)
      rw [h2] at h6
      exact h6
    · have hh : Holds o g at_ b k := ⟨g0, g32, small, by omega, hl, fun j hj => by rw [hs j (by omega)]; unfold dataAt; rw [allF_cons_get0 g b r at_ j (by omega)]; rfl⟩
      unfold done
      rw [if_neg hk1]
      refine ⟨at_, gen, .nil _ _, .inl (hh.stop (by omega) ?_)⟩
      rcases ht with ht | ht | ht
      · exact .inl ht
      · exact .inr ht
      · exfalso; omega

/-- THE LAW: after writes the records that were there and those that lie wholly in what was written are read. -/
theorem recs_after {secs o : List (List UInt8)} {rest : List (List UInt8)} {g k : Nat} (h128 : ∀ s ∈ secs, s.length = 128) (g0 : 0 < g) (g32 : g < 2 ^ 32) (hg : ∀ s ∈ secs, numN (s.take 4) < g) (hlen : o.length = secs.length) (small : secs.length < 2 ^ 16)
    (hne : rest ≠ []) (hk : k ≤ usedN rest) (hfit : usedN (recordsR secs) + k ≤ secs.length) (h1 : ∀ i, i < usedN (recordsR secs) → secAt o i = secAt secs i) (h2 : ∀ j, j < k → secAt o (usedN (recordsR secs) + j) = dataAt (allF g rest (usedN (recordsR secs))) j)
    (h3 : Tail o g (usedN (recordsR secs) + k) (k = usedN rest)) : recordsR o = recordsR secs ++ rest.take (done rest k) := by
  obtain ⟨g', hs, _⟩ := records_scan secs h128
  have hg' : g' ≤ g - 1 := hs.gen (fun s hs => by have := hg s hs; omega) (Nat.zero_le _)
  have hs' := hs.local hlen fun k _ hk => h1 k hk
  obtain ⟨j, g'', h4, h5⟩ := scan_new (o := o) g0 g32 (by omega) rest (usedN (recordsR secs)) g' k (by omega) (fun e => absurd e hne) hk (by omega) h2 h3
  exact scan_records (hs'.app h4) h5

end Go.Proofs.Ytmghnjahjeinnaa
