/- Syncing one by one or together: the law in plain Lean. -/
import Derived.Test.YtckcdokfhdckhaaPl
import Derived.Test.YtckcdokfhdckhaaRda
namespace Go.Proofs.Ytckcdokfhdckhaa
open Go.RowKit Go.Kx

/-- The write that an act makes on a disk of n sectors. -/
def actW (n : Nat) (a : Act4) : Wr := ⟨((a.at_.toNat % n : Nat) : Int), pad [a.byte]⟩
/-- The disk behind k writes, each synced, none of which stopped it. -/
def stepF (D : Disk) (l : List Act4) (k : Nat) : Disk := ⟨performF D.secs ((l.take k).map (actW D.secs.length)), [], if 0 ≤ D.left then D.left - k else D.left, false⟩
/-- The disk behind k writes, none synced. -/
def pileF (D : Disk) (l : List Act4) (k : Nat) : Disk := { D with pend := (l.take k).map (actW D.secs.length) }

structure Fresh (D : Disk) : Prop where
  ok : Disk.ok D = true
  run : D.stopped = false
  none : D.pend = []

theorem Fresh.out {D : Disk} (h : Fresh D) : 1 ≤ D.secs.length ∧ D.secs.length ≤ 4096 ∧ -1 ≤ D.left ∧ D.left ≤ 65536 ∧ ∀ y ∈ D.secs, y.length = 128 := by
  obtain ⟨a1, a2, _, a4, a5, _, a7⟩ := (ok_iff D).1 h.ok
  exact ⟨a1, a2, a4, a5, a7⟩

theorem actW_in (n : Nat) (hn : 1 ≤ n) (a : Act4) : 0 ≤ (actW n a).at_ ∧ (actW n a).at_ < (n : Int) ∧ (actW n a).data.length = 128 := by
  have : a.at_.toNat % n < n := Nat.mod_lt _ (by omega)
  refine ⟨?_, ?_, pad_length (by simp)⟩
  · show (0 : Int) ≤ ((a.at_.toNat % n : Nat) : Int); omega
  · show ((a.at_.toNat % n : Nat) : Int) < n; omega

theorem step_ok {D : Disk} (h : Fresh D) (l : List Act4) (k : Nat) (hk : 0 ≤ D.left → (k : Int) ≤ D.left) : Disk.ok (stepF D l k) = true := by
  obtain ⟨a1, a2, a4, a5, a7⟩ := h.out
  rw [ok_iff]
  refine ⟨by show 1 ≤ (performF _ _).length; rw [performF_length]; exact a1, by show (performF _ _).length ≤ _; rw [performF_length]; exact a2, by simp [stepF], ?_, ?_, by simp [stepF], ?_⟩
  · show -1 ≤ (if 0 ≤ D.left then D.left - (k : Int) else D.left)
    split
    · rename_i h0; have := hk h0; omega
    · omega
  · show (if 0 ≤ D.left then D.left - (k : Int) else D.left) ≤ 65536
    split <;> omega
  · exact performF_128 a7 fun x hx => by
      obtain ⟨a, _, rfl⟩ := List.mem_map.1 hx
      exact (actW_in _ a1 a).2.2

theorem pile_ok {D : Disk} (h : Fresh D) (l : List Act4) (k : Nat) (hk : k ≤ 20) : Disk.ok (pileF D l k) = true := by
  obtain ⟨a1, a2, a4, a5, a7⟩ := h.out
  rw [ok_iff]
  refine ⟨a1, a2, ?_, a4, a5, ?_, a7⟩
  · show ((l.take k).map _).length ≤ 4096
    rw [List.length_map, List.length_take]; omega
  · intro x hx
    obtain ⟨a, _, rfl⟩ := List.mem_map.1 hx
    exact actW_in _ a1 a

/-- One write on a disk that has room. -/
theorem write_act {X : Disk} (hok : Disk.ok X = true) (hr : X.stopped = false) (hp : X.pend.length < 4096) (a : Act4) : writeF X ((a.at_.toNat % X.secs.length : Nat) : Int) [a.byte] = ({ X with pend := X.pend ++ [actW X.secs.length a] }, 0) := by
  have h1 : 1 ≤ X.secs.length := ((ok_iff X).1 hok).1
  have := actW_in X.secs.length h1 a
  unfold writeF
  rw [if_pos, if_neg (by simp), if_neg (by omega)]
  · rfl
  · simp only [hok, hr, Bool.not_false, Bool.and_self, Bool.true_and, Bool.and_eq_true, decide_eq_true_eq]
    exact ⟨this.1, this.2.1⟩

theorem take_snoc {α : Type} (l : List α) (k : Nat) (h : k < l.length) : l.take (k + 1) = l.take k ++ [l[k]] := List.take_succ_eq_append_getElem h

theorem write_step {D : Disk} (h : Fresh D) (l : List Act4) (k : Nat) (hk : k < l.length) (hl : 0 ≤ D.left → (k : Int) ≤ D.left) :
    writeF (stepF D l k) ((l[k].at_.toNat % D.secs.length : Nat) : Int) [l[k].byte] = ({ stepF D l k with pend := [actW D.secs.length l[k]] }, 0) := by
  have e : (stepF D l k).secs.length = D.secs.length := performF_length _ _
  have := write_act (step_ok h l k hl) rfl (by show (0 : Nat) < 4096; omega) l[k]
  rw [e] at this
  exact this

theorem write_pile {D : Disk} (h : Fresh D) (l : List Act4) (k : Nat) (hk : k < l.length) (h20 : l.length ≤ 20) :
    writeF (pileF D l k) ((l[k].at_.toNat % D.secs.length : Nat) : Int) [l[k].byte] = (pileF D l (k + 1), 0) := by
  have := write_act (pile_ok h l k (by omega)) h.run (by show ((l.take k).map _).length < 4096; rw [List.length_map, List.length_take]; omega) l[k]
  rw [show (pileF D l k).secs.length = D.secs.length from rfl] at this
  rw [this]
  have e : (pileF D l (k + 1)) = { D with pend := (l.take k).map (actW D.secs.length) ++ [actW D.secs.length l[k]] } := by
    unfold pileF
    rw [take_snoc l k hk, List.map_append]; rfl
  rw [e]; rfl

theorem perform_snoc (secs : List Bytes) (l : List Wr) (x : Wr) : performF secs (l ++ [x]) = (performF secs l).set x.at_.toNat x.data := by simp [performF, List.foldl_append]

/-- What the whole leads to. -/
def endF (D : Disk) (l : List Act4) : Disk × Int := syncF (pileF D l l.length)

/-- The sync behind one write: it goes on, or it is where the whole stops. -/
theorem sync_step {D : Disk} (h : Fresh D) (l : List Act4) (k : Nat) (hk : k < l.length) (h20 : l.length ≤ 20) (hl : 0 ≤ D.left → (k : Int) ≤ D.left) :
    (syncF { stepF D l k with pend := [actW D.secs.length l[k]] } = (stepF D l (k + 1), 0) ∧ (0 ≤ D.left → ((k + 1 : Nat) : Int) ≤ D.left)) ∨
    (syncF { stepF D l k with pend := [actW D.secs.length l[k]] } = endF D l ∧ (endF D l).2 = 40) := by
  obtain ⟨a1, a2, a4, a5, a7⟩ := h.out
  have hA := actW_in D.secs.length a1 l[k]
  have hok1 : Disk.ok { stepF D l k with pend := [actW D.secs.length l[k]] } = true := by
    obtain ⟨b1, b2, _, b4, b5, _, b7⟩ := (ok_iff _).1 (step_ok h l k hl)
    rw [ok_iff]
    refine ⟨b1, b2, by simp, b4, b5, ?_, b7⟩
    intro x hx
    have hx' : x ∈ [actW D.secs.length l[k]] := hx
    simp only [List.mem_singleton] at hx'
    subst hx'
    rw [show ({ stepF D l k with pend := [actW D.secs.length l[k]] } : Disk).secs.length = D.secs.length from performF_length _ _]
    exact hA
  have hpk := pile_ok h l l.length h20
  by_cases hst : 0 ≤ D.left ∧ D.left = (k : Int)
  · right
    have e1 : (stepF D l k).left = 0 := by show (if 0 ≤ D.left then D.left - (k : Int) else D.left) = 0; rw [if_pos hst.1]; omega
    have e2 : (pileF D l l.length).pend.length = l.length := by show ((l.take l.length).map _).length = _; simp
    have he : endF D l = (stopsF (pileF D l l.length), 40) := by
      unfold endF syncF
      rw [if_pos (by rw [hpk]; simp [pileF, h.run]), if_pos]
      rw [e2]
      exact ⟨hst.1, by show D.left < _; omega⟩
    rw [he]
    refine ⟨?_, rfl⟩
    unfold syncF
    rw [if_pos (by rw [hok1]; simp [stepF]), if_pos]
    · have ek : D.left.toNat = k := by omega
      have ep : (pileF D l l.length).pend = l.map (actW D.secs.length) := by show (l.take l.length).map _ = _; rw [List.take_length]
      have en : nthW (l.map (actW D.secs.length)) k = actW D.secs.length l[k] := by simp [nthW, List.getD, hk]
      have el : (pileF D l l.length).left.toNat = k := ek
      have e0 : ({ stepF D l k with pend := [actW D.secs.length l[k]] } : Disk).left.toNat = 0 := by show (stepF D l k).left.toNat = 0; rw [e1]; rfl
      have es : (stepF D l k).secs = performF D.secs ((l.map (actW D.secs.length)).take k) := by show performF _ ((l.take k).map _) = _; rw [List.map_take]
      unfold stopsF
      rw [e0, el, ep, en]
      show (({ secs := (performF (stepF D l k).secs ([actW D.secs.length l[k]].take 0)).set _ (tornF (nthW [actW D.secs.length l[k]] 0) _), pend := [], left := 0, stopped := true } : Disk), (40 : Int)) = _
      rw [es]
      rfl
    · show 0 ≤ (stepF D l k).left ∧ (stepF D l k).left < _
      rw [e1]; simp
  · left
    have hl2 : 0 ≤ D.left → ((k + 1 : Nat) : Int) ≤ D.left := fun h0 => by have := hl h0; omega
    refine ⟨?_, hl2⟩
    unfold syncF
    rw [if_pos (by rw [hok1]; simp [stepF]), if_neg]
    · have e3 : performF (stepF D l k).secs [actW D.secs.length l[k]] = (stepF D l (k + 1)).secs := by
        show performF (performF D.secs ((l.take k).map _)) [_] = performF D.secs ((l.take (k + 1)).map _)
        rw [take_snoc l k hk, List.map_append, List.map_cons, List.map_nil, perform_snoc]
        rfl
      have e4 : (if 0 ≤ (stepF D l k).left then (stepF D l k).left - (1 : Nat) else (stepF D l k).left) = (stepF D l (k + 1)).left := by
        show (if 0 ≤ (if 0 ≤ D.left then D.left - (k : Int) else D.left) then (if 0 ≤ D.left then D.left - (k : Int) else D.left) - ((1 : Nat) : Int) else (if 0 ≤ D.left then D.left - (k : Int) else D.left)) = (if 0 ≤ D.left then D.left - ((k + 1 : Nat) : Int) else D.left)
        by_cases h0 : 0 ≤ D.left
        · have := hl h0
          rw [if_pos h0, if_pos h0, if_pos (by omega)]; omega
        · rw [if_neg h0, if_neg h0, if_neg h0]
      show (({ secs := performF (stepF D l k).secs [actW D.secs.length l[k]], pend := [], left := if 0 ≤ (stepF D l k).left then (stepF D l k).left - ((1 : Nat) : Int) else (stepF D l k).left, stopped := false } : Disk), (0 : Int)) = _
      rw [e3, e4]; rfl
    · show ¬ (0 ≤ (stepF D l k).left ∧ (stepF D l k).left < ((1 : Nat) : Int))
      show ¬ (0 ≤ (if 0 ≤ D.left then D.left - (k : Int) else D.left) ∧ (if 0 ≤ D.left then D.left - (k : Int) else D.left) < ((1 : Nat) : Int))
      by_cases h0 : 0 ≤ D.left
      · have := hl2 h0
        rw [if_pos h0]; omega
      · rw [if_neg h0]; omega

/-- Where nothing stopped, both lead to the same disk. -/
theorem step_end {D : Disk} (h : Fresh D) (l : List Act4) (h20 : l.length ≤ 20) (hl : 0 ≤ D.left → (l.length : Int) ≤ D.left) : endF D l = (stepF D l l.length, 0) := by
  have e2 : (pileF D l l.length).pend.length = l.length := by show ((l.take l.length).map _).length = _; simp
  unfold endF syncF
  rw [if_pos (by rw [pile_ok h l l.length h20]; simp [pileF, h.run]), if_neg]
  · rw [e2]; rfl
  · rw [e2]
    rintro ⟨h1, h2⟩
    have := hl h1
    have h2' : D.left < (l.length : Int) := h2
    omega

end Go.Proofs.Ytckcdokfhdckhaa
