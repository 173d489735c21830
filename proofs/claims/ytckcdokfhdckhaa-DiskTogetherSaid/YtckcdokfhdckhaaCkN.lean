/- The walk of disk.perform. -/
import Derived.Test.YtckcdokfhdckhaaRows
import Derived.Test.YtckcdokfhdckhaaCkM
import Derived.WalkKit
import Derived.WalkLawsBesides
import Derived.WalkSpells
import Derived.Outline
import Derived.Lib.Hide
import Derived.Laws.CopyOwn
import Derived.Deep.OwnRows
import Derived.RangeFuncBox
namespace Go.Proofs.Ytckcdokfhdckhaa
open Go.RowKit Go.Kx

theorem Elems.set {α : Type} {E : Enc α} {S : Nat → Prop} {w : World} {xs : List Value} {l : List α} (h : Elems E S w xs l) (hsz : E.size = 1) (j : Nat) {u : Value} {x : α} (hu : E.rel S w [u] x) : Elems E S w (xs.set j u) (l.set j x) := by
  refine ⟨by simp [h.length], fun i hi => ?_⟩
  have hi' : i < l.length := by simpa using hi
  have hx : i < xs.length := by rw [h.length, hsz]; omega
  have h1 := h.elem i hi'
  rw [hsz, Nat.mul_one] at h1 ⊢
  rw [List.drop_eq_getElem_cons hx] at h1
  rw [List.drop_eq_getElem_cons (by simpa using hx)]
  simp only [List.take_succ_cons, List.take_zero] at h1 ⊢
  rw [List.getElem_set, List.getElem_set]
  split
  · exact hu
  · exact h1

/-- The sectors after some writes. -/
def performF (secs : List Bytes) (l : List Wr) : List Bytes := l.foldl (fun s x => s.set x.at_.toNat x.data) secs
theorem performF_step (secs : List Bytes) (l : List Wr) (k : Nat) (h : k < l.length) : performF secs (l.take (k + 1)) = (performF secs (l.take k)).set l[k].at_.toNat l[k].data := by
  rw [List.take_succ_eq_append_getElem h]; simp only [performF, List.foldl_append, List.foldl_cons, List.foldl_nil]
theorem performF_length (secs : List Bytes) (l : List Wr) : (performF secs l).length = secs.length := by
  unfold performF
  induction l generalizing secs with
  | nil => rfl
  | cons x r ih => simp only [List.foldl_cons]; rw [ih]; simp

/-- What perform hands back: a slice of its own, whose elements lie in old memory. -/
def RetPerf (S : Nat → Prop) (w : World) (l : List Bytes) (e : Ending) (w' : World) : Prop :=
  ∃ v xs, e = .returned v ∧ w'.ownsRow w.heap.size 35 1 v l.length xs ∧ Elems (eSl eByte) (fun b => S b ∧ b < w.heap.size) w xs l ∧ Below w.heap.size w w'

set_option maxHeartbeats 2000000 in
theorem perform_any (S : Nat → Prop) (w : World) (sa : Option Addr) (sn sc : Nat) (pa : Option Addr) (pn pc : Nat) (secs : List Bytes) (l : List Wr)
    (hs : Sl (eSl eByte) S w sa sn sc secs) (hp : Sl eWr S w pa pn pc l) (hv : ∀ i (h : i < l.length), 0 ≤ l[i].at_ ∧ l[i].at_ < (sn : Int)) :
    Calls Try.prog 40 #[.slice sa sn sc, .slice pa pn pc] w (RetPerf S w (performF secs l)) := by
  have H := Lib.hid (cloneB_any (fun b => S b ∧ b < w.heap.size) w sa sn sc secs (hs.mono fun b hS hb => ⟨⟨hS, hb⟩, rfl⟩))
  have hls := Lib.hid hs.length
  have hlp := Lib.hid hp.length
  have HP := Lib.hid hp
  have HV := Lib.hid hv
  have hpn : pn ≤ 4398046511104 := by have := hp.bytes; simp [eWr] at this; omega
  have hsn : sn ≤ 140737488355328 := by have := hs.bytes; simp [eSl] at this; omega
  clear hs hp hv
  go_enter Try.func40, Try.ntmps40
  go_wp2_with ((with_reducible refine H.out.mono ?_); rintro e w1 ⟨v, xs, rfl, hown, hel, hb1⟩; have HO := Lib.hid hown; have HE := Lib.hid hel; clear hown hel H)
  have hown : Hid (w1.ownsRow w.heap.size 35 1 v sn xs) := by have := HO.out; rw [hls.out] at this; exact this
  obtain ⟨a, c, rfl⟩ := own_form hown.out
  go_loopw [12] (fun i wr => ∃ (k : Nat) (xs : List Value), k ≤ pn ∧ i = .int .i64 k ∧ Hid (wr.ownsRow w.heap.size 35 1 (.slice a sn c) sn xs) ∧ Hid (Elems (eSl eByte) (fun b => S b ∧ b < w.heap.size) w xs (performF secs (l.take k))) ∧ Below w.heap.size w wr) (fun i _ => pn - (intOf i).toNat)
  case atStart => exact ⟨0, xs, by omega, rfl, hown, HE.out.mono fun b hb _ => ⟨hb, (hb1.block b hb.2).symm⟩, hb1⟩
  case round =>
    obtain ⟨k, ys, hk, rfl, HOr, HEr, hbr⟩ := hrel
    clear HO HE hown
    by_cases hlt : k < pn
    · have hkl : k < l.length := by have := hlp.out; omega
      obtain ⟨b, off, oa, n1, c1, rfl, hb, hS, hc0, hc1, hx, hlo, hhi⟩ := Sl.wr HP.out hbr k hkl
      obtain ⟨hv0, hv1⟩ := HV.out k hkl
      obtain ⟨at', hat⟩ := Int.eq_ofNat_of_zero_le hv0
      have hav : at' < sn := by omega
      obtain ⟨sn', rfl⟩ : ∃ s, sn = s + 1 := ⟨sn - 1, by omega⟩
      obtain ⟨g, cap, hvv⟩ := ownsRow_succ HOr.out
      cases hvv
      have hcell : wr.cell? ⟨g, at', none⟩ = ys[at']? := HOr.out.cellAt at' (by omega)
      have hys : at' < ys.length := by have := HOr.out.1; omega
      rw [List.getElem?_eq_getElem hys] at hcell
      have hfr : wr.frozen? ⟨g, at', none⟩ = false := HOr.out.frozenAt at'
      have hgw : w.heap.size ≤ g := (HOr.out.lt g rfl).1
      have hgr : g < wr.heap.size := (HOr.out.lt g rfl).2
      have HST := Lib.hid (performF_step secs l k hkl)
      rw [hat] at hc0
      have HAT := Lib.hid hat
      have HX := Lib.hid hx
      generalize ys[at'] = y at hcell
      clear hat hv0 hv1 hlo hhi hx
      go_wp2
      refine ⟨⟨k + 1, ys.set at' (.slice oa n1 c1), by omega, by go_num, ?_, ?_, ?_⟩, by simp [intOf]; omega⟩
      · exact (HOr.out.stored at' _).1.alloc _
      · show Elems _ _ _ _ _
        rw [HST.out, HAT.out]
        exact Elems.set HEr.out rfl at' ⟨oa, n1, c1, rfl, HX.out.mono fun b hS hb => ⟨⟨hS, hb⟩, rfl⟩⟩
      · (repeat (first | (with_reducible assumption) | exact Below.refl _ _ | refine Below.setCell ?_ (by first | (simp; done) | (simp; omega) | omega) _ | refine Below.alloc ?_ (by first | (simp; done) | (simp; omega) | omega) _ | refine Below.drew ?_ | refine below_drewN ?_ _))
    · go_wp2
      go_ret
      have e : l.take k = l := List.take_of_length_le (by have := hlp.out; omega)
      refine ⟨_, ys, rfl, ?_, by have := HEr.out; rwa [e] at this, hbr⟩
      rw [performF_length, hls.out]; exact HOr.out

end Go.Proofs.Ytckcdokfhdckhaa
