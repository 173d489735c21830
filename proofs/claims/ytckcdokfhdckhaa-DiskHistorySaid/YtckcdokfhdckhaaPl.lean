/- What disks do, in plain Lean: what a write, a read, a sync leave. No walk. -/
import Derived.Test.YtckcdokfhdckhaaDisk3
import Derived.Test.YtckcdokfhdckhaaCkG
namespace Go.Proofs.Ytckcdokfhdckhaa
open Go.RowKit Go.Kx

theorem ok_iff (d : Disk) : Disk.ok d = true ↔ (1 ≤ d.secs.length ∧ d.secs.length ≤ 4096 ∧ d.pend.length ≤ 4096 ∧ -1 ≤ d.left ∧ d.left ≤ 65536 ∧
    (∀ x ∈ d.pend, 0 ≤ x.at_ ∧ x.at_ < (d.secs.length : Int) ∧ x.data.length = 128) ∧ ∀ y ∈ d.secs, y.length = 128) := by
  have e1 : (d.pend.any (badW d.secs.length) = false) ↔ ∀ x ∈ d.pend, 0 ≤ x.at_ ∧ x.at_ < (d.secs.length : Int) ∧ x.data.length = 128 := by
    rw [List.any_eq_false]
    constructor
    · intro h x hx
      have := h x hx
      simp only [badW, Bool.or_eq_true, decide_eq_true_eq, Bool.not_eq_true', beq_eq_false_iff_ne, not_or] at this
      omega
    · intro h x hx
      have := h x hx
      simp only [badW, Bool.or_eq_true, decide_eq_true_eq, Bool.not_eq_true', beq_eq_false_iff_ne]
      omega
  have e2 : (d.secs.any badB = false) ↔ ∀ y ∈ d.secs, y.length = 128 := by
    rw [List.any_eq_false]
    constructor
    · intro h x hx
      have := h x hx
      simp only [badB, Bool.not_eq_true', beq_eq_false_iff_ne] at this
      omega
    · intro h x hx
      have := h x hx
      simp only [badB, Bool.not_eq_true', beq_eq_false_iff_ne]
      omega
  simp only [Disk.ok, Bool.and_eq_true, Bool.not_eq_true', Bool.or_eq_false_iff, decide_eq_false_iff_not, e1, e2]
  constructor
  · rintro ⟨⟨⟨⟨⟨⟨h1, h2⟩, h3⟩, h4⟩, h5⟩, h6⟩, h7⟩
    exact ⟨by omega, by omega, by omega, by omega, by omega, h6, h7⟩
  · rintro ⟨h1, h2, h3, h4, h5, h6, h7⟩
    exact ⟨⟨⟨⟨⟨⟨by omega, by omega⟩, by omega⟩, by omega⟩, by omega⟩, h6⟩, h7⟩

theorem writeF_zero {d x : Disk} {at_ : Int} {b : Bytes} (h : writeF d at_ b = (x, 0)) :
    Disk.ok d = true ∧ d.stopped = false ∧ (0 ≤ at_ ∧ at_ < (d.secs.length : Int)) ∧ b.length ≤ 128 ∧ d.pend.length ≠ 4096 ∧ x = { d with pend := d.pend ++ [⟨at_, pad b⟩] } := by
  unfold writeF at h
  split at h
  · rename_i hc
    simp only [Bool.and_eq_true, Bool.not_eq_true', decide_eq_true_eq] at hc
    split at h
    · simp at h
    · split at h
      · simp at h
      · rename_i h1 h2
        simp only [Prod.mk.injEq, and_true] at h
        exact ⟨hc.1.1, hc.1.2, hc.2, by omega, h2, h.symm⟩
  · simp at h

theorem readF_zero {d : Disk} {at_ : Int} {r : Bytes} (h : readF d at_ = (r, 0)) :
    Disk.ok d = true ∧ d.stopped = false ∧ (0 ≤ at_ ∧ at_ < (d.secs.length : Int)) ∧ r = lastAt d.pend at_ (d.secs.getD at_.toNat []) := by
  unfold readF at h
  split at h
  · rename_i hc
    simp only [Bool.and_eq_true, Bool.not_eq_true', decide_eq_true_eq] at hc
    simp only [Prod.mk.injEq, and_true] at h
    exact ⟨hc.1.1, hc.1.2, hc.2, h.symm⟩
  · simp at h

theorem readF_ok {d : Disk} {at_ : Int} (h : Disk.ok d = true) (hs : d.stopped = false) (h0 : 0 ≤ at_) (h1 : at_ < (d.secs.length : Int)) : readF d at_ = (lastAt d.pend at_ (d.secs.getD at_.toNat []), 0) := by
  simp [readF, h, hs, h0, h1]

theorem pad_length {b : Bytes} (h : b.length ≤ 128) : (pad b).length = 128 := by simp [pad]; omega

theorem ok_write {d : Disk} {at_ : Int} {b : Bytes} (h : Disk.ok d = true) (h0 : 0 ≤ at_) (h1 : at_ < (d.secs.length : Int)) (hb : b.length ≤ 128) (hp : d.pend.length ≠ 4096) :
    Disk.ok { d with pend := d.pend ++ [⟨at_, pad b⟩] } = true := by
  rw [ok_iff] at h ⊢
  obtain ⟨a1, a2, a3, a4, a5, a6, a7⟩ := h
  refine ⟨a1, a2, ?_, a4, a5, ?_, a7⟩
  · show (d.pend ++ [_]).length ≤ 4096
    rw [List.length_append]; simp; omega
  · intro x hx
    rcases List.mem_append.1 hx with hx | hx
    · exact a6 x hx
    · simp only [List.mem_singleton] at hx
      subst hx
      exact ⟨h0, h1, pad_length hb⟩

theorem lastAt_snoc (p : List Wr) (x : Wr) (at_ : Int) (b : Bytes) : lastAt (p ++ [x]) at_ b = if x.at_ = at_ then x.data else lastAt p at_ b := by
  simp [lastAt, List.foldl_append]

theorem lastAt_length {p : List Wr} {at_ : Int} {b : Bytes} (hp : ∀ x ∈ p, x.data.length = 128) (hb : b.length = 128) : (lastAt p at_ b).length = 128 := by
  induction p generalizing b with
  | nil => exact hb
  | cons x r ih =>
    simp only [lastAt, List.foldl_cons]
    refine ih (fun y hy => hp y (List.mem_cons_of_mem _ hy)) ?_
    split
    · exact hp x List.mem_cons_self
    · exact hb

theorem performF_get (secs : List Bytes) (l : List Wr) (h : ∀ x ∈ l, 0 ≤ x.at_ ∧ x.at_ < (secs.length : Int)) (k : Nat) (hk : k < secs.length) : (performF secs l).getD k [] = lastAt l k (secs.getD k []) := by
  induction l generalizing secs with
  | nil => rfl
  | cons x r ih =>
    have hx := h x List.mem_cons_self
    have e : performF secs (x :: r) = performF (secs.set x.at_.toNat x.data) r := rfl
    rw [e, ih _ (fun y hy => by rw [List.length_set]; exact h y (List.mem_cons_of_mem _ hy)) (by rw [List.length_set]; exact hk)]
    simp only [lastAt, List.foldl_cons]
    congr 1
    by_cases hat : x.at_ = (k : Int)
    · rw [if_pos hat]
      have : x.at_.toNat = k := by omega
      subst this
      simp [List.getD, hk]
    · rw [if_neg hat]
      have : x.at_.toNat ≠ k := by omega
      simp [List.getD, this]

theorem syncF_zero {d z : Disk} (h : syncF d = (z, 0)) : Disk.ok d = true ∧ d.stopped = false ∧ ¬ (0 ≤ d.left ∧ d.left < (d.pend.length : Int)) ∧ z = ⟨performF d.secs d.pend, [], if 0 ≤ d.left then d.left - d.pend.length else d.left, false⟩ := by
  unfold syncF at h
  split at h
  · rename_i hc
    simp only [Bool.and_eq_true, Bool.not_eq_true'] at hc
    split at h
    · simp at h
    · rename_i hn
      simp only [Prod.mk.injEq, and_true] at h
      exact ⟨hc.1, hc.2, hn, h.symm⟩
  · simp at h

theorem syncF_cases (d : Disk) (h : Disk.ok d = true) (hs : d.stopped = false) : (syncF d).2 = 0 ∨ ((syncF d).2 = 40 ∧ (syncF d).1.stopped = true) := by
  unfold syncF
  rw [if_pos (by simp [h, hs])]
  split
  · exact Or.inr ⟨rfl, rfl⟩
  · exact Or.inl rfl

theorem ok_perform {d : Disk} (h : Disk.ok d = true) (hn : ¬ (0 ≤ d.left ∧ d.left < (d.pend.length : Int))) : Disk.ok ⟨performF d.secs d.pend, [], if 0 ≤ d.left then d.left - d.pend.length else d.left, false⟩ = true := by
  rw [ok_iff] at h ⊢
  obtain ⟨a1, a2, a3, a4, a5, a6, a7⟩ := h
  refine ⟨by rw [performF_length]; exact a1, by rw [performF_length]; exact a2, by simp, ?_, ?_, by simp, ?_⟩
  · show -1 ≤ (if 0 ≤ d.left then d.left - (d.pend.length : Int) else d.left)
    split <;> omega
  · show (if 0 ≤ d.left then d.left - (d.pend.length : Int) else d.left) ≤ 65536
    split <;> omega
  · exact performF_128 a7 fun x hx => (a6 x hx).2.2

theorem checkF_ok {d : Disk} (h : Disk.ok d = true) : checkF d = 0 := by simp [checkF, h]

/-- DiskReads, its law: what is read behind one write. -/
theorem reads_law1 {d x : Disk} {at_ other : Int} {b before : Bytes} (e : readF d other = (before, 0)) (f : writeF d at_ b = (x, 0)) :
    ∃ after mine, readF x other = (after, 0) ∧ readF x at_ = (mine, 0) ∧ mine.length = 128 ∧ mine.take b.length = b ∧ (at_ ≠ other → before = after) := by
  obtain ⟨h1, h2, h3, h4, h5, rfl⟩ := writeF_zero f
  obtain ⟨_, _, g3, rfl⟩ := readF_zero e
  have hok := ok_write h1 h3.1 h3.2 h4 h5
  refine ⟨_, _, readF_ok hok h2 g3.1 g3.2, readF_ok hok h2 h3.1 h3.2, ?_, ?_, ?_⟩
  · show (lastAt (d.pend ++ [_]) at_ _).length = 128
    rw [lastAt_snoc, if_pos rfl]; exact pad_length h4
  · show (lastAt (d.pend ++ [_]) at_ _).take _ = b
    rw [lastAt_snoc, if_pos rfl]; simp [pad]
  · intro hne
    show _ = lastAt (d.pend ++ [_]) other _
    rw [lastAt_snoc, if_neg hne]

theorem writeF_cases {x : Disk} {at_ : Int} {c : Bytes} (h : Disk.ok x = true) (hs : x.stopped = false) (h0 : 0 ≤ at_) (h1 : at_ < (x.secs.length : Int)) (hc : c.length ≤ 128) : (writeF x at_ c).2 = 0 ∨ (writeF x at_ c).2 = 2 := by
  unfold writeF
  rw [if_pos (by simp [h, hs, h0, h1]), if_neg (by omega)]
  split
  · exact Or.inr rfl
  · exact Or.inl rfl

/-- .. of a second write. -/
theorem reads_law2 {d x : Disk} {at_ other : Int} {b c before : Bytes} (e : readF d other = (before, 0)) (f : writeF d at_ b = (x, 0)) (hc : c.length ≤ 128) :
    Disk.ok x = true ∧ x.stopped = false ∧ x.secs = d.secs ∧ ((writeF x other c).2 = 0 ∨ (writeF x other c).2 = 2) := by
  obtain ⟨h1, h2, h3, h4, h5, rfl⟩ := writeF_zero f
  obtain ⟨_, _, g3, rfl⟩ := readF_zero e
  have hok := ok_write h1 h3.1 h3.2 h4 h5
  exact ⟨hok, h2, rfl, writeF_cases hok h2 g3.1 g3.2 hc⟩

/-- .. of the sync. -/
theorem reads_law3 {x y z : Disk} {other : Int} {c : Bytes} (i : writeF x other c = (y, 0)) (j : syncF y = (z, 0)) :
    z.pend = [] ∧ checkF z = 0 ∧ ∀ k : Nat, k < x.secs.length → ∃ u, readF y k = (u, 0) ∧ readF z k = (u, 0) := by
  obtain ⟨h1, h2, h3, h4, h5, rfl⟩ := writeF_zero i
  obtain ⟨g1, g2, g3, rfl⟩ := syncF_zero j
  have hz := ok_perform g1 g3
  refine ⟨rfl, checkF_ok hz, fun k hk => ⟨_, readF_ok g1 g2 (by omega) (by simpa using hk), ?_⟩⟩
  rw [readF_ok hz rfl (by omega) (by rw [performF_length]; simpa using hk)]
  have e := performF_get x.secs (x.pend ++ [⟨other, pad c⟩]) (fun w hw => ⟨(((ok_iff _).1 g1).2.2.2.2.2.1 w hw).1, (((ok_iff _).1 g1).2.2.2.2.2.1 w hw).2.1⟩) k hk
  have e2 : ((k : Int)).toNat = k := by omega
  rw [e2]
  show (lastAt [] (k : Int) ((performF x.secs (x.pend ++ [⟨other, pad c⟩])).getD k []), (0 : Int)) = _
  rw [e]; rfl

theorem write_zero_or (d : Disk) (at_ : Int) (b : Bytes) : (writeF d at_ b).2 = 0 ∨ (writeF d at_ b).2 ≠ 0 := by omega

end Go.Proofs.Ytckcdokfhdckhaa
