/- The walks of the reference's Check, Few and Stop, and of both Restart. -/
import Derived.Test.YtckcdokfhdckhaaRows
import Derived.Test.YtckcdokfhdckhaaCkC
import Derived.WalkKit
import Derived.WalkLawsBesides
import Derived.WalkSpells
import Derived.Outline
import Derived.Lib.Hide
import Derived.Deep.QuietTactic
import Derived.BigQuiet
namespace Go.Proofs.Ytckcdokfhdckhaa
open Go.RowKit Go.Kx

/-- The k-th element of a slice of []byte, in a later world. -/
theorem Sl.row {S : Nat → Prop} {w wr : World} {a : Option Addr} {n c : Nat} {l : List Bytes} (h : Sl (eSl eByte) S w a n c l) (hb : Below w.heap.size w wr) (k : Nat) (hk : k < l.length) :
    ∃ b off oa n1 c1, a = some ⟨b, off, none⟩ ∧ b < w.heap.size ∧ S b ∧ wr.cell? ⟨b, off + k, none⟩ = some (.slice oa n1 c1) ∧ Sl eByte S w oa n1 c1 l[k] := by
  obtain ⟨b, off, cs, rfl, hS, hlt, hcl, hcell, oa, n1, c1, rfl, hx⟩ := h.elem k hk
  have hc0 := hcell 0 (by simp [eSl])
  simp only [eSl, Nat.add_zero, Nat.mul_one, List.getElem?_cons_zero] at hc0
  rw [← hb.cell (by simpa using hlt)] at hc0
  exact ⟨b, off, oa, n1, c1, rfl, hlt, hS, hc0, hx⟩

theorem Sl.wr {S : Nat → Prop} {w wr : World} {a : Option Addr} {n c : Nat} {l : List Wr} (h : Sl eWr S w a n c l) (hb : Below w.heap.size w wr) (k : Nat) (hk : k < l.length) :
    ∃ b off oa n1 c1, a = some ⟨b, off, none⟩ ∧ b < w.heap.size ∧ S b ∧ wr.cell? ⟨b, off + k * 2, none⟩ = some (.int .i64 l[k].at_) ∧ wr.cell? ⟨b, off + k * 2 + 1, none⟩ = some (.slice oa n1 c1) ∧ Sl eByte S w oa n1 c1 l[k].data ∧
      -9223372036854775808 ≤ l[k].at_ ∧ l[k].at_ ≤ 9223372036854775807 := by
  obtain ⟨b, off, cs, rfl, hS, hlt, hcl, hcell, oa, n1, c1, rfl, hr, hx⟩ := h.elem k hk
  have hc0 := hcell 0 (by simp [eWr])
  have hc1 := hcell 1 (by simp [eWr])
  simp only [eWr, Nat.add_zero, List.getElem?_cons_zero, List.getElem?_cons_succ] at hc0 hc1
  rw [← hb.cell (by simpa using hlt)] at hc0 hc1
  exact ⟨b, off, oa, n1, c1, rfl, hlt, hS, hc0, hc1, hx, hr⟩

set_option maxHeartbeats 1000000 in
theorem rcheck_any (S : Nat → Prop) (w : World) (sa : Option Addr) (sn sc : Nat) (pa : Option Addr) (pn pc : Nat) (left : Int) (st : Bool) (secs : List Bytes) (pend : List Wr)
    (hs : Sl (eSl eByte) S w sa sn sc secs) (hp : Sl eWr S w pa pn pc pend) :
    Calls Try.prog 16 #[.agg #[.slice sa sn sc, .slice pa pn pc, .int .i64 left, .bool st]] w fun e w' => e = .returned (.int .i64 (checkF ⟨secs, pend, left, st⟩)) ∧ Below w.heap.size w w' := by
  have hsn : sn ≤ 140737488355328 := by have := hs.bytes; simp [eSl] at this; omega
  have hpn : pn ≤ 140737488355328 := by have := hp.bytes; simp [eWr] at this; omega
  have hls := Lib.hid hs.length
  have hlp := Lib.hid hp.length
  have HS := Lib.hid hs
  have HP := Lib.hid hp
  clear hs hp
  by_cases hg : (1 ≤ (sn : Int) ∧ (sn : Int) ≤ 4096 ∧ (pn : Int) ≤ 4096) ∧ -1 ≤ left ∧ left ≤ 65536
  · obtain ⟨⟨g1, g2, g3⟩, g4, g5⟩ := hg
    have hck : checkF ⟨secs, pend, left, st⟩ = if pend.any (badW sn) || secs.any badB then 40 else 0 := by
      have e1 := hls.out
      have e2 := hlp.out
      simp only [checkF, Disk.ok, e1, e2]
      rw [decide_eq_false (by omega : ¬ (sn : Int) < 1), decide_eq_false (by omega : ¬ 4096 < (sn : Int)), decide_eq_false (by omega : ¬ 4096 < (pn : Int)), decide_eq_false (by omega : ¬ left < -1), decide_eq_false (by omega : ¬ 65536 < left)]
      cases pend.any (badW sn) <;> cases secs.any badB <;> rfl
    have HCK := Lib.hid hck
    clear hck
    go_enter Try.func16, Try.ntmps16
    go_wp2
    go_loop [4] (fun i => ∃ k : Nat, k ≤ sn ∧ i = .int .i64 k ∧ (secs.take k).any badB = false) (fun i => sn - (intOf i).toNat)
    case atStart => exact ⟨0, by omega, rfl, by simp⟩
    case round =>
      obtain ⟨k, hk, rfl, hany⟩ := hrel
      have HA := Lib.hid hany
      clear hany
      by_cases hlt : k < sn
      · obtain ⟨b, off, oa, n1, c1, rfl, hb, hS, hc0, hx⟩ := Sl.row HS.out (Below.refl _ w) k (by have := hls.out; omega)
        have hn1 := hx.bytes
        have hl1 := hx.length
        simp only [eByte, Nat.mul_one] at hn1
        have HX := Lib.hid hl1
        clear hx hl1
        by_cases h128 : (n1 : Int) = 128
        · have hbb : badB (secs[k]'(by have := hls.out; omega)) = false := by unfold badB; rw [HX.out, h128]; rfl
          have h128' : (((n1 : Int)) != 128) = false := by simp [h128]
          have HB := Lib.hid hbb
          clear hbb h128
          go_wp2
          go_round
          case rel => exact ⟨k + 1, by omega, by go_num, by rw [any_take_snoc _ _ _ (by have := hls.out; omega), HA.out, HB.out]; rfl⟩
          case measure => simp [intOf]; omega
        · have hbb : badB (secs[k]'(by have := hls.out; omega)) = true := by unfold badB; rw [HX.out]; simp [h128]
          have h128' : (((n1 : Int)) != 128) = true := by simp [h128]
          have hfin : secs.any badB = true := any_of _ _ _ _ hbb
          have HB := Lib.hid hfin
          clear hbb h128 hfin
          go_wp2
          go_ret
          exact ⟨ret_int (by rw [HCK.out, HB.out]; simp), by (repeat (first | (with_reducible assumption) | exact Below.refl _ _ | refine Below.setCell ?_ (by first | (simp; done) | (simp; omega) | omega) _ | refine Below.alloc ?_ (by first | (simp; done) | (simp; omega) | omega) _ | refine Below.drew ?_ | refine below_drewN ?_ _))⟩
      · have hfin : secs.any badB = false := by rw [← List.take_of_length_le (l := secs) (i := k) (by have := hls.out; omega), HA.out]
        have HF := Lib.hid hfin
        clear hfin
        go_wp2
        have hb0 : Below w.heap.size w (w.alloc (.cells #[.slice sa sn sc, .slice pa pn pc, .int .i64 left, .bool st] 25)) := by (repeat (first | (with_reducible assumption) | exact Below.refl _ _ | refine Below.setCell ?_ (by first | (simp; done) | (simp; omega) | omega) _ | refine Below.alloc ?_ (by first | (simp; done) | (simp; omega) | omega) _ | refine Below.drew ?_ | refine below_drewN ?_ _))
        obtain ⟨W0, hW0⟩ : ∃ W0, W0 = w.alloc (.cells #[.slice sa sn sc, .slice pa pn pc, .int .i64 left, .bool st] 25) := ⟨_, rfl⟩
        go_loopw [5] (fun i wr => ∃ k : Nat, k ≤ pn ∧ i = .int .i64 k ∧ (pend.take k).any (badW sn) = false ∧ Below (w.heap.size + 1) (w.alloc (.cells #[.slice sa sn sc, .slice pa pn pc, .int .i64 left, .bool st] 25)) wr) (fun i _ => pn - (intOf i).toNat)
        case atStart => exact ⟨0, by omega, rfl, by simp, Below.refl _ _⟩
        case round =>
          obtain ⟨k, hk, rfl, hany, hbel⟩ := hrel
          have HA := Lib.hid hany
          clear hany
          have hbw : Below w.heap.size w wr := hb0.trans (hbel.mono (by omega))
          have hB0 : ∀ j v, (#[Value.slice sa sn sc, .slice pa pn pc, .int .i64 left, .bool st])[j]? = some v → wr.cell? ⟨w.heap.size, j, none⟩ = some v := fun j v hv => by rw [hbel.cell (by simp)]; simpa [go_sem] using hv
          have c1 := hB0 1 _ rfl
          clear hB0
          have hzz := hbel.size
          simp at hzz
          by_cases hlt : k < pn
          · obtain ⟨b, off, oa, n1, cc, rfl, hb, hS, hc0, hc1, hx, hlo, hhi⟩ := Sl.wr HP.out hbw k (by have := hlp.out; omega)
            have hl1 := Lib.hid hx.length
            have hkl : k < pend.length := by have := hlp.out; omega
            obtain ⟨x, hx0⟩ : ∃ x, x = pend[k] := ⟨_, rfl⟩
            rw [← hx0] at hc0 hlo hhi hl1
            have HX := Lib.hid hx0
            clear hx hx0
            by_cases h1 : x.at_ < 0 ∨ (sn : Int) ≤ x.at_ ∨ (n1 : Int) ≠ 128
            · have hfin : pend.any (badW sn) = true := any_of _ _ k hkl (by
                have e := hl1.out
                rw [← HX.out]
                simp only [badW, e]
                rcases h1 with h1 | h1 | h1 <;> simp [h1])
              have HF2 := Lib.hid hfin
              clear hfin
              rcases h1 with h1 | h1 | h1
              · go_wp2
                go_ret
                exact ⟨ret_int (by rw [HCK.out, HF2.out]; simp), by (repeat (first | (with_reducible assumption) | exact Below.refl _ _ | refine Below.setCell ?_ (by first | (simp; done) | (simp; omega) | omega) _ | refine Below.alloc ?_ (by first | (simp; done) | (simp; omega) | omega) _ | refine Below.drew ?_ | refine below_drewN ?_ _))⟩
              · go_wp2
                all_goals
                  go_ret
                  exact ⟨ret_int (by rw [HCK.out, HF2.out]; simp), by (repeat (first | (with_reducible assumption) | exact Below.refl _ _ | refine Below.setCell ?_ (by first | (simp; done) | (simp; omega) | omega) _ | refine Below.alloc ?_ (by first | (simp; done) | (simp; omega) | omega) _ | refine Below.drew ?_ | refine below_drewN ?_ _))⟩
              · have h1' : (((n1 : Int)) != 128) = true := by simp [h1]
                go_wp2
                all_goals
                  go_ret
                  exact ⟨ret_int (by rw [HCK.out, HF2.out]; simp), by (repeat (first | (with_reducible assumption) | exact Below.refl _ _ | refine Below.setCell ?_ (by first | (simp; done) | (simp; omega) | omega) _ | refine Below.alloc ?_ (by first | (simp; done) | (simp; omega) | omega) _ | refine Below.drew ?_ | refine below_drewN ?_ _))⟩
            · have h2 : 0 ≤ x.at_ := by omega
              have h3 : x.at_ < (sn : Int) := by omega
              have h4 : (n1 : Int) = 128 := by omega
              have h5 : (((n1 : Int)) != 128) = false := by simp [h4]
              have hfin : badW sn pend[k] = false := by
                have e := hl1.out
                rw [← HX.out]
                simp only [badW, e, h4]
                simp [show ¬ x.at_ < 0 by omega, show ¬ (sn : Int) ≤ x.at_ by omega]
              have HF2 := Lib.hid hfin
              clear hfin h1 h4
              go_wp2
              go_roundw
              case rel => exact ⟨k + 1, by omega, by go_num, by rw [any_take_snoc _ _ _ hkl, HA.out, HF2.out]; rfl, by (repeat (first | (with_reducible assumption) | exact Below.refl _ _ | refine Below.setCell ?_ (by first | (simp; done) | (simp; omega) | omega) _ | refine Below.alloc ?_ (by first | (simp; done) | (simp; omega) | omega) _ | refine Below.drew ?_ | refine below_drewN ?_ _))⟩
              case measure => simp [intOf]; omega
          · have hfin : pend.any (badW sn) = false := by rw [← List.take_of_length_le (l := pend) (i := k) (by have := hlp.out; omega), HA.out]
            have HF2 := Lib.hid hfin
            clear hfin
            go_wp2
            go_ret
            exact ⟨ret_int (by rw [HCK.out, HF2.out, HF.out]; simp), by (repeat (first | (with_reducible assumption) | exact Below.refl _ _ | refine Below.setCell ?_ (by first | (simp; done) | (simp; omega) | omega) _ | refine Below.alloc ?_ (by first | (simp; done) | (simp; omega) | omega) _ | refine Below.drew ?_ | refine below_drewN ?_ _))⟩
  · have hck : checkF ⟨secs, pend, left, st⟩ = 40 := by
      have e1 := hls.out
      have e2 := hlp.out
      simp only [checkF, Disk.ok, e1, e2]
      rw [if_neg]
      simp
      omega
    rw [hck]
    go_enter Try.func16, Try.ntmps16
    by_cases q1 : (sn : Int) < 1
    · go_wp2
      go_ret
      exact ⟨rfl, by (repeat (first | (with_reducible assumption) | exact Below.refl _ _ | refine Below.setCell ?_ (by first | (simp; done) | (simp; omega) | omega) _ | refine Below.alloc ?_ (by first | (simp; done) | (simp; omega) | omega) _ | refine Below.drew ?_ | refine below_drewN ?_ _))⟩
    by_cases q2 : 4096 < (sn : Int)
    · go_wp2
      go_ret
      exact ⟨rfl, by (repeat (first | (with_reducible assumption) | exact Below.refl _ _ | refine Below.setCell ?_ (by first | (simp; done) | (simp; omega) | omega) _ | refine Below.alloc ?_ (by first | (simp; done) | (simp; omega) | omega) _ | refine Below.drew ?_ | refine below_drewN ?_ _))⟩
    by_cases q3 : 4096 < (pn : Int)
    · go_wp2
      go_ret
      exact ⟨rfl, by (repeat (first | (with_reducible assumption) | exact Below.refl _ _ | refine Below.setCell ?_ (by first | (simp; done) | (simp; omega) | omega) _ | refine Below.alloc ?_ (by first | (simp; done) | (simp; omega) | omega) _ | refine Below.drew ?_ | refine below_drewN ?_ _))⟩
    by_cases q4 : left < -1
    · go_wp2
      go_ret
      exact ⟨rfl, by (repeat (first | (with_reducible assumption) | exact Below.refl _ _ | refine Below.setCell ?_ (by first | (simp; done) | (simp; omega) | omega) _ | refine Below.alloc ?_ (by first | (simp; done) | (simp; omega) | omega) _ | refine Below.drew ?_ | refine below_drewN ?_ _))⟩
    have q5 : 65536 < left := by omega
    go_wp2
    go_ret
    exact ⟨rfl, by (repeat (first | (with_reducible assumption) | exact Below.refl _ _ | refine Below.setCell ?_ (by first | (simp; done) | (simp; omega) | omega) _ | refine Below.alloc ?_ (by first | (simp; done) | (simp; omega) | omega) _ | refine Below.drew ?_ | refine below_drewN ?_ _))⟩

end Go.Proofs.Ytckcdokfhdckhaa
