/- Plain law: what was synced survives. No program in sight. -/
import Derived.Test.YtmghnjahjeinnaaNd
namespace Go.Proofs.Ytmghnjahjeinnaa
open Go.Fr Go.Kx

theorem Scan.le_len {o : List (List UInt8)} {i g j g' : Nat} {rs : List (List UInt8)} (h : Scan o i g rs j g') : i ≤ o.length → j ≤ o.length := by
  induction h with
  | nil => exact id
  | cons hr _ _ ih => intro _; exact ih hr.len
theorem records_fit {o : List (List UInt8)} (h128 : ∀ s ∈ o, s.length = 128) : usedN (recordsR o) ≤ o.length := by
  obtain ⟨g', h, _⟩ := records_scan o h128
  exact h.le_len (Nat.zero_le _)
theorem used_bounds {o : List (List UInt8)} {n : Nat} (h : usedN o ≤ n) : o.length ≤ n ∧ ∀ b ∈ o, b.length ≤ 112 * n := by
  induction o generalizing n with
  | nil => exact ⟨Nat.zero_le _, fun b hb => by cases hb⟩
  | cons x r ih =>
    have e : usedN (x :: r) = secsN x.length + usedN r := by simp [usedN]
    have hp := secs_pos x.length
    have hx : x.length ≤ 112 * secsN x.length := by unfold secsN; omega
    obtain ⟨h1, h2⟩ := ih (n := n - secsN x.length) (by omega)
    refine ⟨by simp only [List.length_cons]; omega, fun b hb => ?_⟩
    rcases List.mem_cons.1 hb with rfl | hb
    · omega
    · have := h2 b hb; omega

/-- What holds between two syncs. -/
structure Inv (N i : Nat) (kept : List (List UInt8)) (D : Disk) : Prop where
  n1 : 1 ≤ N
  n30 : N ≤ 30
  good : Good D
  left : D.left = -1
  recs : recordsR D.secs = kept
  len : D.secs.length = N
  nb : NB i D.secs
theorem Inv.jok {N i : Nat} {kept : List (List UInt8)} {D : Disk} (h : Inv N i kept D) : jOK kept N kept.length := by
  have h1 := records_fit h.good.all.1
  rw [h.recs, h.len] at h1
  have := h.n1
  have := h.n30
  exact ⟨by omega, by omega, by omega, by omega, by omega⟩
theorem Inv.small {N i : Nat} {kept : List (List UInt8)} {D : Disk} (h : Inv N i kept D) : kept.length ≤ 30 ∧ ∀ b ∈ kept, b.length < 2 ^ 40 := by
  have h1 := h.jok.2.2.2.2
  have := h.n30
  obtain ⟨h2, h3⟩ := used_bounds (o := kept) (n := 30) (by omega)
  exact ⟨h2, fun b hb => by have := h3 b hb; omega⟩
theorem inv_new {N : Nat} (h1 : 1 ≤ N) (h2 : N ≤ 30) : Inv N 0 [] (newD N) := by
  obtain ⟨a, b, c⟩ := newD_good (n := N) h1 (by omega)
  exact ⟨h1, h2, a, rfl, b, by simp [newD], c⟩
theorem Inv.opens {N i : Nat} {kept : List (List UInt8)} {D : Disk} (h : Inv N i kept D) : openF D = ((kept, (N : Int), (kept.length : Int)), 0) := by
  rw [open_good h.good, h.recs, h.len]
theorem Inv.din {N i : Nat} {kept : List (List UInt8)} {D : Disk} (h : Inv N i kept D) : DIn D := by constructor <;> rw [h.left] <;> decide
theorem Inv.stops {N i : Nat} {kept : List (List UInt8)} {D : Disk} (h : Inv N i kept D) (x : Nat) (hx : x ≤ 65536) : stopF D x = ({ D with left := (x : Int) }, 0) := by
  unfold stopF
  rw [h.good.ok, h.good.runs, if_pos (by decide), if_neg (by simp; omega)]
theorem Inv.again {N i : Nat} {kept : List (List UInt8)} {secs : List (List UInt8)} (h1 : 1 ≤ N) (h2 : N ≤ 30) (h128 : ∀ s ∈ secs, s.length = 128) (hl : secs.length = N) (hr : recordsR secs = kept) (hn : NB i secs) : Inv N i kept ⟨secs, [], -1, false⟩ :=
  ⟨h1, h2, good_of h128 (by omega) (by omega) (by decide) (by decide), rfl, hr, hl, hn⟩

/-- One writing. -/
theorem round_plain {N i : Nat} {kept : List (List UInt8)} {D D2 : Disk} (h : Inv N i kept D) (hi : i ≤ 8) (recs : List (List UInt8)) (hD2 : D2 = D ∨ ∃ x : Nat, x ≤ 65536 ∧ D2 = { D with left := (x : Int) }) :
    ∃ L, addF N kept.length kept recs = L ∧ kept.length ≤ L.length ∧ usedN L ≤ 30 ∧ ((∃ D3, jsyncF L N kept.length D2 = (((L, (N : Int), (L.length : Int)), D3), 0) ∧ Inv N (i + 1) L (restartF D3) ∧ DIn D3) ∨
      (∃ secs r, D2.left ≠ -1 ∧ jsyncF L N kept.length D2 = ((([], 0, 0), ⟨secs, [], 0, true⟩), 40) ∧ kept.length ≤ r ∧ r ≤ L.length ∧ Inv N (i + 1) (L.take r) ⟨secs, [], -1, false⟩)) := by
  obtain ⟨n1, n30, hg, hlf, hr, hl, hnb⟩ := id h
  obtain ⟨a1, a2, a3, a4, a5⟩ := hg.all
  have hjk := h.jok
  have hjL := addF_ok recs kept hjk
  obtain ⟨t, ht⟩ := addF_pre N kept.length recs kept
  refine ⟨_, rfl, by rw [ht, List.length_append]; omega, by have := hjL.2.2.2.2; omega, ?_⟩
  generalize addF N kept.length kept recs = L at *
  have hkL : kept.length ≤ L.length := by rw [ht, List.length_append]; omega
  have e2 : D2.secs = D.secs ∧ Good D2 ∧ DIn D2 ∧ (D2.left = -1 ∨ 0 ≤ D2.left) := by
    rcases hD2 with rfl | ⟨x, hx, rfl⟩
    · exact ⟨rfl, hg, h.din, .inl hlf⟩
    · refine ⟨rfl, ⟨?_, hg.runs, hg.none⟩, ?_, .inr (Int.natCast_nonneg _)⟩
      · rw [ok_iff]
        obtain ⟨b1, b2, b3, b4, b5, b6, b7⟩ := (ok_iff D).1 hg.ok
        exact ⟨b1, b2, b3, by dsimp only; omega, by dsimp only; omega, b6, b7⟩
      · constructor <;> dsimp only <;> omega
  obtain ⟨es, hg2, hd2, hl2⟩ := e2
  have hgen := hnb.genF a1
  have hgen' : genF D2.secs ≤ i + 1 := by rw [es]; exact hgen
  have hl2' : D2.secs.length = N := by rw [es]; exact hl
  have hok2 : jOK L D2.secs.length kept.length := by rw [hl2']; exact hjL
  have hr2 : recordsR D2.secs = L.take kept.length := by rw [es, hr, ht, List.take_left]
  have mono : ∀ {secs : List (List UInt8)}, NB (genF D2.secs) secs → NB (i + 1) secs := fun hh s hs => by have := hh s hs; omega
  by_cases hs : kept.length < L.length
  · by_cases hst : 0 ≤ D2.left ∧ D2.left < (usedN (L.drop kept.length) : Int)
    · obtain ⟨secs, r, c1, c2, c3, c4, c5, c6, c7⟩ := jsync_stops hg2 hok2 hr2 (by omega) hs hst
      rw [hl2'] at c1
      refine .inr ⟨secs, r, by omega, c1, c4, c5, Inv.again n1 n30 c2.all.1 (by omega) c6 (mono c7)⟩
    · obtain ⟨secs, left, c1, c2, c3, c4, c5, _⟩ := jsync_runs hg2 hok2 hr2 (by omega) hs hst
      rw [hl2'] at c1
      obtain ⟨d1, d2, d3, d4, d5⟩ := c2.all
      refine .inl ⟨_, c1, Inv.again n1 n30 d1 (by dsimp only; omega) c4 (mono c5), ?_⟩
      constructor <;> dsimp only at d4 d5 ⊢ <;> omega
  · have e : kept.length = L.length := by omega
    rw [e] at hok2 hr2 ⊢
    rw [List.take_length] at hr2
    have c1 := jsync_same hg2 hok2 hr2 (by omega)
    rw [hl2'] at c1
    refine .inl ⟨D2, c1, ?_, hd2⟩
    unfold restartF
    exact Inv.again n1 n30 (by rw [es]; exact a1) hl2' hr2 (mono fun s hs => by have := genF_nb hg2.all.1 s hs; omega)

end Go.Proofs.Ytmghnjahjeinnaa
