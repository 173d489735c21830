/- The walks of what checks a disk: disk.Check, its closures, and the reference's Check, over whatever disk lies in memory. -/
import Derived.Test.YtckcdokfhdckhaaRows
import Derived.Test.YtckcdokfhdckhaaCkA
import Derived.WalkKit
import Derived.WalkLawsBesides
import Derived.WalkSpells
import Derived.Outline
import Derived.Lib.Hide
import Derived.Deep.QuietTactic
import Derived.BigQuiet
namespace Go.Proofs.Ytckcdokfhdckhaa
open Go.RowKit Go.Kx

theorem bcell {W w1 : World} (hb : Below W.heap.size W w1) : (∀ b o, b < W.heap.size → w1.cell? ⟨b, o, none⟩ = W.cell? ⟨b, o, none⟩) ∧ (∀ b o, b < W.heap.size → w1.frozen? ⟨b, o, none⟩ = W.frozen? ⟨b, o, none⟩) :=
  ⟨fun b o h => hb.cell (p := ⟨b, o, none⟩) h, fun b o h => hb.frozen (p := ⟨b, o, none⟩) h⟩

set_option maxHeartbeats 1000000 in
theorem check_any (S : Nat → Prop) (w : World) (sa : Option Addr) (sn sc : Nat) (pa : Option Addr) (pn pc : Nat) (left : Int) (st : Bool) (secs : List Bytes) (pend : List Wr)
    (hs : Sl (eSl eByte) S w sa sn sc secs) (hp : Sl eWr S w pa pn pc pend) :
    Calls Try.prog 15 #[.agg #[.slice sa sn sc, .slice pa pn pc, .int .i64 left, .bool st]] w fun e w' => e = .returned (.int .i64 (checkF ⟨secs, pend, left, st⟩)) ∧ Below w.heap.size w w' := by
  have hsn : sn ≤ 140737488355328 := by have := hs.bytes; simp [eSl] at this; omega
  have hpn : pn ≤ 140737488355328 := by have := hp.bytes; simp [eWr] at this; omega
  have hls := Lib.hid hs.length
  have hlp := Lib.hid hp.length
  have HS := Lib.hid hs
  have HP := Lib.hid hp
  clear hs hp
  go_enter Try.func15, Try.ntmps15
  go_wp2_with fail
  rotate_left 1
  all_goals try
    go_ret
    refine ⟨?_, ((Below.refl _ _).alloc (Nat.le_refl _) _).alloc (by simp) _⟩
    refine ret_int ?_
    have e1 := hls.out
    have e2 := hlp.out
    unfold checkF
    rw [if_neg]
    simp only [Disk.ok, e1, e2]
    simp [*]
  have hb0 : Below w.heap.size w ((w.alloc (.cells #[.slice sa sn sc, .slice pa pn pc, .int .i64 left, .bool st] 25)).alloc (.cells #[.int .i64 sn] 3)) := ((Below.refl _ _).alloc (Nat.le_refl _) _).alloc (by simp) _
  refine (contains_write S _ pa pn pc pend 30 #[] #[.pointer (some ⟨w.heap.size + 1, 0, none⟩)] (badW sn) (HP.out.below hb0) (entersOf Try.func30 (by kernel_rfl) rfl) ?_).mono ?_
  · rintro x c0 c1 w1 hb1 ⟨oa, n, c, hcs, hr, hx⟩
    simp only [List.cons.injEq, and_true] at hcs
    obtain ⟨rfl, rfl⟩ := hcs
    have hc := hb1.cell (p := ⟨w.heap.size + 1, 0, none⟩) (by simp)
    rw [show ((w.alloc (.cells #[.slice sa sn sc, .slice pa pn pc, .int .i64 left, .bool st] 25)).alloc (.cells #[.int .i64 sn] 3)).cell? ⟨w.heap.size + 1, 0, none⟩ = some (.int .i64 sn) by simp [go_sem]] at hc
    refine (check1_any x.at_ sn oa n c (w.heap.size + 1) w1 hc (by have := hb1.size; simp at this; omega)).mono ?_
    rintro e w2 ⟨rfl, hb2⟩
    exact ⟨by unfold badW; rw [hx.length], hb2⟩
  · rintro e w1 ⟨rfl, hb1⟩
    have hb2 := hb0.trans (hb1.mono (by simp; omega))
    obtain ⟨hcc, hff⟩ := bcell hb1
    cases hany : pend.any (badW sn) with
    | true =>
      go_wp2
      go_ret
      exact ⟨ret_int (by have e1 := hls.out; have e2 := hlp.out; simp only [checkF, Disk.ok, e1, e2, hany]; simp), hb2⟩
    | false =>
      go_wp2_with (go_at_call 33; refine (contains_bytes S _ sa sn sc secs 34 #[] #[] badB (HS.out.below hb2) (entersOf Try.func34 (by kernel_rfl) rfl) ?_).mono ?_)
      · rintro x c0 w2 hb3 ⟨oa, n, c, hcs, hx⟩
        simp only [List.cons.injEq, and_true] at hcs
        obtain rfl := hcs
        refine (check2_any oa n c w2).mono ?_
        rintro e w3 ⟨rfl, rfl⟩
        exact ⟨by unfold badB; rw [hx.length], Below.refl _ _⟩
      · rintro e w2 ⟨rfl, hb3⟩
        have hb4 := hb2.trans (hb3.mono hb2.size)
        go_wp2
        all_goals
          go_ret
          refine ⟨ret_int ?_, hb4⟩
          have e1 := hls.out
          have e2 := hlp.out
          simp only [checkF, Disk.ok, e1, e2, hany]
          simp [*]

theorem runs_any (S : Nat → Prop) (w : World) (sa : Option Addr) (sn sc : Nat) (pa : Option Addr) (pn pc : Nat) (left : Int) (st : Bool) (secs : List Bytes) (pend : List Wr)
    (hs : Sl (eSl eByte) S w sa sn sc secs) (hp : Sl eWr S w pa pn pc pend) :
    Calls Try.prog 35 #[.agg #[.slice sa sn sc, .slice pa pn pc, .int .i64 left, .bool st]] w fun e w' => e = .returned (.bool (Disk.ok ⟨secs, pend, left, st⟩ && !st)) ∧ Below w.heap.size w w' := by
  have hb0 : Below w.heap.size w (w.alloc (.cells #[.slice sa sn sc, .slice pa pn pc, .int .i64 left, .bool st] 25)) := (Below.refl _ _).alloc (Nat.le_refl _) _
  have H := Lib.hid (check_any S _ sa sn sc pa pn pc left st secs pend (hs.below hb0) (hp.below hb0))
  clear hs hp
  go_enter Try.func35, Try.ntmps35
  cases hok : Disk.ok ⟨secs, pend, left, st⟩ with
  | true =>
    have hck : checkF ⟨secs, pend, left, st⟩ = 0 := by simp [checkF, hok]
    rw [hck] at H
    go_wp2_with ((with_reducible refine H.out.mono ?_); rintro e w1 ⟨rfl, hb1⟩; obtain ⟨hcc, hff⟩ := bcell hb1)
    go_ret
    exact ⟨rfl, hb0.trans (hb1.mono (by simp))⟩
  | false =>
    have hck : checkF ⟨secs, pend, left, st⟩ = 40 := by simp [checkF, hok]
    rw [hck] at H
    go_wp2_with ((with_reducible refine H.out.mono ?_); rintro e w1 ⟨rfl, hb1⟩; obtain ⟨hcc, hff⟩ := bcell hb1)
    go_ret
    exact ⟨rfl, hb0.trans (hb1.mono (by simp))⟩

theorem has_any (w : World) (sa : Option Addr) (sn sc : Nat) (pa : Option Addr) (pn pc : Nat) (left : Int) (st : Bool) (at_ : Int) :
    Calls Try.prog 36 #[.agg #[.slice sa sn sc, .slice pa pn pc, .int .i64 left, .bool st], .int .i64 at_] w fun e w' => e = .returned (.bool (decide (0 ≤ at_) && decide (at_ < (sn : Int)))) ∧ Below w.heap.size w w' := by
  go_enter Try.func36, Try.ntmps36
  go_wp2
  all_goals
    go_ret
    refine ⟨ret_bool ?_, (Below.refl _ _).alloc (Nat.le_refl _) _⟩
    first | (simp [*]; done) | (simp [*]; omega)

end Go.Proofs.Ytckcdokfhdckhaa
