/- Plain laws: a new disk; Sync without a stop; appending what fits. No program in sight. -/
import Derived.Test.YtmghnjahjeinnaaOa
namespace Go.Proofs.Ytmghnjahjeinnaa
open Go.Fr Go.Kx

def newD (n : Nat) : Disk := ⟨List.replicate n (List.replicate 128 0), [], -1, false⟩
theorem newF_eq {n : Nat} (h1 : 1 ≤ n) (h2 : n ≤ 4096) : newF n = (newD n, 0) := by
  unfold newF newD
  rw [if_neg (by simp; omega), Int.toNat_natCast]
theorem zero_bad (k : Nat) : goodR (List.replicate 128 0) k = false := by
  unfold goodR headR
  rw [show numN ((List.replicate 128 (0 : UInt8)).take 4) = 0 from by decide]
  rfl
theorem newD_good {n : Nat} (h1 : 1 ≤ n) (h2 : n ≤ 4096) : Good (newD n) ∧ recordsR (newD n).secs = [] ∧ NB 0 (newD n).secs := by
  have hm : ∀ s ∈ (newD n).secs, s = List.replicate 128 0 := fun s hs => (List.mem_replicate.1 hs).2
  refine ⟨good_of (fun s hs => by rw [hm s hs]; simp) (by simp; omega) (by simp; omega) (by decide) (by decide), ?_, ?_⟩
  · refine scan_records (.nil 0 0) (.inl (record_stop 0 (fun j hj => absurd hj (Nat.not_lt_zero j)) (.inr ?_)))
    have e : secAt (newD n).secs (0 + 0) = List.replicate 128 0 := hm _ (secAt_mem (by show 0 < (List.replicate n _).length; simp; omega))
    unfold badR
    rw [e, zero_bad]; rfl
  · intro s hs
    rw [hm s hs]
    decide

/-- Sync on a disk that runs on. -/
theorem jsync_ok {o : List (List UInt8)} {s : Nat} {D : Disk} (hG : Good D) (hok : jOK o D.secs.length s) (hr : recordsR D.secs = o.take s) (g32 : genF D.secs < 2 ^ 32) (hl : D.left = -1) :
    ∃ D' : Disk, jsyncF o D.secs.length s D = (((o, (D.secs.length : Int), (o.length : Int)), D'), 0) ∧ Good D' ∧ D'.secs.length = D.secs.length ∧ recordsR D'.secs = o ∧ NB (genF D.secs) D'.secs ∧ D'.left = -1 := by
  by_cases hs : s < o.length
  · obtain ⟨secs, left, h1, h2, h3, h4, h5, h6⟩ := jsync_runs hG hok hr g32 hs (by omega)
    exact ⟨_, h1, h2, h3, h4, h5, h6 hl⟩
  · have h1 := hok.2.2.2.1
    have e : s = o.length := by omega
    subst e
    rw [List.take_length] at hr
    refine ⟨D, jsync_same hG hok hr g32, hG, rfl, hr, fun x hx => ?_, hl⟩
    have := genF_nb hG.all.1 x hx
    omega

theorem addS_ok {m s : Int} {o : List (List UInt8)} {b : List UInt8} (h : jOK o m s) : jOK (addS m s o b) m s := by
  obtain ⟨h1, h2, h3, h4, h5⟩ := id h
  have hl := appF_cases o m s b
  rcases hl with ⟨e1, e2⟩ | ⟨e, _, _, e2⟩
  · rw [e2]
    unfold appF at e1
    rw [if_pos h] at e1
    split at e1
    · simp at e1
    · rename_i hf
      refine ⟨h1, h2, h3, by rw [List.length_append]; omega, ?_⟩
      have : usedN (o ++ [b]) = usedN o + secsN b.length := by unfold usedN; simp
      omega
  · rw [e2]; exact h
theorem addF_ok {m s : Int} : ∀ (l o : List (List UInt8)), jOK o m s → jOK (addF m s o l) m s
  | [], _, h => h
  | b :: r, o, h => addF_ok r (addS m s o b) (addS_ok h)
theorem addS_pre (m s : Int) (o : List (List UInt8)) (b : List UInt8) : ∃ t, addS m s o b = o ++ t := by
  unfold addS; split
  · exact ⟨[b], rfl⟩
  · exact ⟨[], by simp⟩
theorem addF_pre (m s : Int) : ∀ (l o : List (List UInt8)), ∃ t, addF m s o l = o ++ t
  | [], o => ⟨[], by simp [addF]⟩
  | b :: r, o => by
    obtain ⟨t, h⟩ := addF_pre m s r (addS m s o b)
    obtain ⟨u, h2⟩ := addS_pre m s o b
    refine ⟨u ++ t, ?_⟩
    have : addF m s o (b :: r) = addF m s (addS m s o b) r := rfl
    rw [this, h, h2, List.append_assoc]
theorem addS_any {m s s' : Int} {o : List (List UInt8)} {b : List UInt8} (h : jOK o m s) (h' : jOK o m s') : addS m s o b = addS m s' o b := by
  unfold addS appF
  rw [if_pos h, if_pos h']
  by_cases hf : m - (usedN o : Int) < (secsN b.length : Int)
  · rw [if_pos hf, if_pos hf]
  · rw [if_neg hf, if_neg hf]
theorem addF_any {m s s' : Int} : ∀ (l o : List (List UInt8)), jOK o m s → jOK o m s' → addF m s o l = addF m s' o l
  | [], _, _, _ => rfl
  | b :: r, o, h, h' => by
    have e := addS_any (b := b) h h'
    show addF m s (addS m s o b) r = addF m s' (addS m s' o b) r
    rw [← e]
    exact addF_any r _ (addS_ok h) (by rw [e]; exact addS_ok h')
theorem jok_len {o : List (List UInt8)} {m s : Int} (h : jOK o m s) : jOK o m o.length := ⟨h.1, h.2.1, by omega, by omega, h.2.2.2.2⟩

/-- The law: in steps or at once. -/
structure Steps (a b oa oab : List (List UInt8)) (D0 Dc D1 D2 : Disk) : Prop where
  ea : addF 40 0 [] a = oa
  eb : addF 40 0 oa b = oab
  eb2 : addF 40 oa.length oa b = oab
  s1 : jsyncF oab 40 0 D0 = (((oab, 40, (oab.length : Int)), Dc), 0)
  s2 : jsyncF oa 40 0 D0 = (((oa, 40, (oa.length : Int)), D1), 0)
  s3 : jsyncF oab 40 oa.length D1 = (((oab, 40, (oab.length : Int)), D2), 0)
  s4 : jsyncF oab 40 oab.length D2 = (((oab, 40, (oab.length : Int)), D2), 0)
  o0 : openF D0 = (([], 40, 0), 0)
  oc : openF Dc = ((oab, 40, (oab.length : Int)), 0)
  o2 : openF D2 = ((oab, 40, (oab.length : Int)), 0)
  i0 : D0.left = -1
  ic : Dc.left = -1
  i1 : D1.left = -1
  i2 : D2.left = -1
theorem steps_plain (a b : List (List UInt8)) : ∃ oa oab Dc D1 D2, Steps a b oa oab (newD 40) Dc D1 D2 := by
  obtain ⟨hG, hr, hnb⟩ := newD_good (n := 40) (by decide) (by decide)
  have hl : (newD 40).secs.length = 40 := by simp [newD]
  have hg0 := hnb.genF hG.all.1
  have hj0 : jOK [] 40 0 := ⟨by decide, by decide, by decide, by decide, by simp [usedN]⟩
  have hja := addF_ok a [] hj0
  have hjab := addF_ok b _ hja
  obtain ⟨t, ht⟩ := addF_pre 40 0 b (addF 40 0 [] a)
  have hb2 := addF_any b _ (jok_len hja) hja
  generalize hoa : addF 40 0 [] a = oa at *
  generalize hoab : addF 40 0 oa b = oab at *
  have h40 : ((40 : Nat) : Int) = 40 := rfl
  have hlo : oa.length ≤ oab.length := by rw [ht, List.length_append]; omega
  obtain ⟨Dc, c1, c2, c3, c4, c5, c6⟩ := jsync_ok (o := oab) (s := 0) (D := newD 40) hG (by rw [hl]; exact hjab) (by rw [hr]; rfl) (by omega) rfl
  obtain ⟨D1, d1, d2, d3, d4, d5, d6⟩ := jsync_ok (o := oa) (s := 0) (D := newD 40) hG (by rw [hl]; exact hja) (by rw [hr]; rfl) (by omega) rfl
  have hg1 := d5.genF d2.all.1
  obtain ⟨D2, e1, e2, e3, e4, e5, e6⟩ := jsync_ok (o := oab) (s := oa.length) (D := D1) d2 (by rw [d3, hl]; exact ⟨hjab.1, hjab.2.1, by omega, by omega, hjab.2.2.2.2⟩) (by rw [d4, ht, List.take_left]) (by omega) d6
  have hg2 := e5.genF e2.all.1
  have f1 := jsync_same (o := oab) (D := D2) e2 (by rw [e3, d3, hl]; exact jok_len hjab) e4 (by omega)
  rw [hl] at c1 c3 d1 d3
  rw [d3] at e1 e3
  rw [e3] at f1
  have p0 := open_good hG
  have pc := open_good c2
  have p2 := open_good e2
  rw [hr, hl] at p0
  rw [c4, c3] at pc
  rw [e4, e3] at p2
  exact ⟨oa, oab, Dc, D1, D2, hoa, hoab, hb2, c1, d1, e1, f1, p0, pc, p2, rfl, c6, d6, e6⟩

end Go.Proofs.Ytmghnjahjeinnaa
