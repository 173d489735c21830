/- Plain laws of a disk's history. No program in sight. -/
import Derived.Test.YtckcdokfhdckhaaPl
import Derived.Test.YtckcdokfhdckhaaRda
import Derived.Test.YtckcdokfhdckhaaCkT
namespace Go.Proofs.Ytckcdokfhdckhaa
open Go.RowKit Go.Kx

def dbl (a b : UInt8) : Bytes := ((List.replicate 128 0).set 0 a).set 64 b
theorem dbl_len (a b : UInt8) : (dbl a b).length = 128 := by simp [dbl]
theorem dbl_at (a b : UInt8) : (dbl a b)[0]? = some a ∧ (dbl a b)[64]? = some b ∧ (dbl a b)[1]? = some 0 ∧ (dbl a b)[127]? = some 0 := ⟨rfl, rfl, rfl, rfl⟩
theorem dbl_torn (a b c : UInt8) : (dbl a a).take 64 ++ (dbl b c).drop 64 = dbl a c := rfl
def dd (f : List UInt8) : List Bytes := f.map fun c => dbl c c
def updS (f : List UInt8) (a : Act4) : List UInt8 := f.set (a.at_.toNat % 4) a.byte
def upd (f : List UInt8) (W : List Act4) : List UInt8 := W.foldl updS f
def pendW (W : List Act4) : List Wr := W.map fun a => ⟨((a.at_.toNat % 4 : Nat) : Int), dbl a.byte a.byte⟩
def histD (f : List UInt8) (W : List Act4) (room : Int) : Disk := ⟨dd f, pendW W, room, false⟩
theorem updS_len (f : List UInt8) (a : Act4) : (updS f a).length = f.length := by simp [updS]
theorem upd_len : ∀ (W : List Act4) (f : List UInt8), (upd f W).length = f.length
  | [], _ => rfl
  | a :: r, f => by
    have := upd_len r (updS f a)
    rw [updS_len] at this
    exact this
theorem upd_snoc (f : List UInt8) (W : List Act4) (a : Act4) : upd f (W ++ [a]) = updS (upd f W) a := by simp [upd]
theorem upd_take (f : List UInt8) (W : List Act4) (k : Nat) (h : k < W.length) : upd f (W.take (k + 1)) = updS (upd f (W.take k)) W[k] := by
  rw [List.take_succ_eq_append_getElem h, upd_snoc]
theorem dd_set (f : List UInt8) (i : Nat) (c : UInt8) : (dd f).set i (dbl c c) = dd (f.set i c) := by simp [dd, List.map_set]
theorem perform_dd : ∀ (W : List Act4) (f : List UInt8), performF (dd f) (pendW W) = dd (upd f W)
  | [], _ => rfl
  | a :: r, f => by
    have h := perform_dd r (updS f a)
    have e : performF (dd f) (pendW (a :: r)) = performF ((dd f).set ((a.at_.toNat % 4 : Nat) : Int).toNat (dbl a.byte a.byte)) (pendW r) := rfl
    rw [e, Int.toNat_natCast, dd_set]
    exact h
theorem dd_mem {f : List UInt8} : ∀ y ∈ dd f, y.length = 128 := fun y hy => by
  obtain ⟨c, _, rfl⟩ := List.mem_map.1 hy
  exact dbl_len c c
theorem pendW_in (W : List Act4) : ∀ x ∈ pendW W, 0 ≤ x.at_ ∧ x.at_ < (4 : Int) ∧ x.data.length = 128 := fun x hx => by
  obtain ⟨a, _, rfl⟩ := List.mem_map.1 hx
  exact ⟨by dsimp only; omega, by dsimp only; omega, dbl_len _ _⟩
theorem hist_ok {f : List UInt8} {W : List Act4} {room : Int} (hf : f.length = 4) (hW : W.length ≤ 4096) (h1 : -1 ≤ room) (h2 : room ≤ 65536) : Disk.ok (histD f W room) = true := by
  have hl : (dd f).length = 4 := by simp [dd, hf]
  exact (ok_iff _).2 ⟨by show 1 ≤ (dd f).length; omega, by show (dd f).length ≤ 4096; omega, by show (pendW W).length ≤ 4096; simpa [pendW] using hW, h1, h2,
    fun x hx => by have := pendW_in W x hx; show _ ∧ _ < ((dd f).length : Int) ∧ _; omega, dd_mem⟩

/-- Each sector's halves begin with these bytes. -/
def Reads4 (D : Disk) (first second : List UInt8) : Prop := ∀ j (h1 : j < first.length) (h2 : j < second.length), readF D j = (dbl first[j] second[j], 0)
theorem reads_secs {secs : List Bytes} {left : Int} (hok : Disk.ok ⟨secs, [], left, false⟩ = true) {first second : List UInt8} (hl : first.length ≤ secs.length) (h : ∀ j (h1 : j < first.length) (h2 : j < second.length), secs[j]? = some (dbl first[j] second[j])) : Reads4 ⟨secs, [], left, false⟩ first second := fun j h1 h2 => by
  rw [readF_ok hok rfl (by omega) (by show (j : Int) < (secs.length : Int); omega)]
  show (lastAt [] _ ((secs).getD (j : Int).toNat []), (0 : Int)) = _
  rw [Int.toNat_natCast, List.getD_eq_getElem?_getD, h j h1 h2]; rfl
theorem reads_hist {f : List UInt8} {W : List Act4} {room : Int} (hf : f.length = 4) (hW : W.length ≤ 4096) (h1 : -1 ≤ room) (h2 : room ≤ 65536) : Reads4 (histD f W room) (upd f W) (upd f W) := fun j h3 h4 => by
  have hl : (dd f).length = 4 := by simp [dd, hf]
  have hj : j < 4 := by rw [upd_len, hf] at h3; exact h3
  rw [readF_ok (hist_ok hf hW h1 h2) rfl (by omega) (by show (j : Int) < ((dd f).length : Int); omega)]
  have hg := performF_get (dd f) (pendW W) (fun x hx => by have := pendW_in W x hx; omega) j (by omega)
  rw [perform_dd] at hg
  show (lastAt (pendW W) (j : Int) ((dd f).getD (j : Int).toNat []), (0 : Int)) = _
  rw [Int.toNat_natCast, ← hg]
  congr 1
  rw [List.getD_eq_getElem?_getD, dd, List.getElem?_map, List.getElem?_eq_getElem h3]; rfl
theorem write_hist {f : List UInt8} {W : List Act4} {room : Int} (hf : f.length = 4) (hW : W.length ≤ 40) (h1 : -1 ≤ room) (h2 : room ≤ 65536) (a : Act4) : writeF (histD f W room) ((a.at_.toNat % 4 : Nat) : Int) (doubleB a.byte) = (histD f (W ++ [a]) room, 0) := by
  have hl : (dd f).length = 4 := by simp [dd, hf]
  have hp : (pendW W).length = W.length := by simp [pendW]
  have hd : pad (doubleB a.byte) = dbl a.byte a.byte := by unfold pad; rw [show (doubleB a.byte).length = 128 from dbl_len _ _]; simp; rfl
  unfold writeF
  rw [hist_ok hf (by omega) h1 h2, show (histD f W room).stopped = false from rfl, if_pos (by
    show ((true && !false) && (decide (0 ≤ ((a.at_.toNat % 4 : Nat) : Int)) && decide (((a.at_.toNat % 4 : Nat) : Int) < ((dd f).length : Int)))) = true
    rw [decide_eq_true (by omega), decide_eq_true (by omega)]; rfl), if_neg (by rw [show (doubleB a.byte).length = 128 from dbl_len _ _]; omega), if_neg (by show ¬ (pendW W).length = 4096; omega), hd]
  unfold histD
  simp [pendW]
theorem sync_hist {f : List UInt8} {W : List Act4} {room : Int} (hf : f.length = 4) (hW : W.length ≤ 40) (h1 : 0 ≤ room) (h2 : room ≤ 65536) (hr : (W.length : Int) ≤ room) : syncF (histD f W room) = (histD (upd f W) [] (room - W.length), 0) := by
  have hp : (pendW W).length = W.length := by simp [pendW]
  unfold syncF
  rw [hist_ok hf (by omega) (by omega) h2, show (histD f W room).stopped = false from rfl, if_pos (by rfl), if_neg (by show ¬ (0 ≤ room ∧ room < ((pendW W).length : Int)); omega)]
  show (Disk.mk (performF (dd f) (pendW W)) [] (if 0 ≤ room then room - ((pendW W).length : Int) else room) false, (0 : Int)) = _
  rw [perform_dd, if_pos h1, hp]; rfl
theorem stop_hist {f : List UInt8} {W : List Act4} {n : Nat} (hf : f.length = 4) (hW : W.length ≤ 40) (hn : n < W.length) : ∃ X : Disk, syncF (histD f W n) = (X, 40) ∧ X.stopped = true ∧ X.left = 0 ∧ Reads4 (restartF X) (upd f (W.take (n + 1))) (upd f (W.take n)) := by
  have hp : (pendW W).length = W.length := by simp [pendW]
  refine ⟨stopsF (histD f W n), ?_, rfl, rfl, ?_⟩
  · unfold syncF
    rw [hist_ok hf (by omega) (by omega) (by omega), show (histD f W n).stopped = false from rfl, if_pos (by rfl), if_pos (by show 0 ≤ (n : Int) ∧ (n : Int) < ((pendW W).length : Int); omega)]
  · have hnw : nthW (pendW W) n = ⟨((W[n].at_.toNat % 4 : Nat) : Int), dbl W[n].byte W[n].byte⟩ := by
      unfold nthW
      rw [List.getD_eq_getElem?_getD, pendW, List.getElem?_map, List.getElem?_eq_getElem hn]; rfl
    have htk : (pendW W).take n = pendW (W.take n) := by simp [pendW, List.map_take]
    have hgl : (upd f (W.take n)).length = 4 := by rw [upd_len, hf]
    have hsecs : (stopsF (histD f W n)).secs = (dd (upd f (W.take n))).set (W[n].at_.toNat % 4) (dbl W[n].byte ((upd f (W.take n))[W[n].at_.toNat % 4]'(by omega))) := by
      unfold stopsF histD
      dsimp only
      rw [Int.toNat_natCast, hnw, htk, perform_dd]
      dsimp only
      rw [Int.toNat_natCast]
      congr 1
      unfold tornF
      dsimp only
      rw [List.getD_eq_getElem?_getD, dd, List.getElem?_map, List.getElem?_eq_getElem (by omega)]
      exact dbl_torn _ _ _
    have hlen : (stopsF (histD f W n)).secs.length = 4 := by rw [hsecs]; simp [dd, hgl]
    have hut := upd_take f W n hn
    unfold restartF
    refine reads_secs ((ok_iff _).2 ⟨by dsimp only; omega, by dsimp only; omega, by simp, by dsimp only; omega, by dsimp only; omega, by simp, fun y hy => ?_⟩) (by rw [upd_len, hf]; omega) fun j h1 h2 => ?_
    · dsimp only at hy
      rw [hsecs] at hy
      rcases List.mem_or_eq_of_mem_set hy with h | h
      · exact dd_mem y h
      · rw [h]; exact dbl_len _ _
    · have hj : j < 4 := by rw [upd_len, hf] at h1; exact h1
      rw [hsecs, List.getElem?_set]
      have e1 : (upd f (W.take (n + 1)))[j]? = (updS (upd f (W.take n)) W[n])[j]? := by rw [hut]
      rw [List.getElem?_eq_getElem h1] at e1
      unfold updS at e1
      rw [List.getElem?_set] at e1
      by_cases hjj : W[n].at_.toNat % 4 = j
      · subst hjj
        rw [if_pos rfl, if_pos (by simp [dd, hgl]; omega)]
        rw [if_pos rfl, if_pos (by omega)] at e1
        rw [Option.some.inj e1]
      · rw [if_neg hjj]
        rw [if_neg hjj, List.getElem?_eq_getElem h2] at e1
        rw [Option.some.inj e1, dd, List.getElem?_map, List.getElem?_eq_getElem h2]; rfl

end Go.Proofs.Ytckcdokfhdckhaa
