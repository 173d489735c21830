/- The walks of slices.IndexFunc and slices.ContainsFunc over a disk's slices, and of the closures of disk.Check. -/
import Derived.Test.YtckcdokfhdckhaaRows
import Derived.Test.YtckcdokfhdckhaaFrame1
import Derived.WalkKit
import Derived.WalkLawsBesides
import Derived.WalkSpells
import Derived.Outline
import Derived.Lib.Hide
import Derived.Deep.QuietTactic
import Derived.BigQuiet
namespace Go.Proofs.Ytckcdokfhdckhaa
open Go.RowKit Go.Kx

theorem entersOf {P : Program} {f : FuncId} {fn : Func} (hf : P.funcs[f]? = some fn) (hm : (fn.name == "runtime.NumGoroutine") = false) (hb : fn.body.isSome = true) (args : Array Value) (w : World) :
    (callFunc f args).run P w = .ok (.enter f args) w := by
  cases h : fn.body with
  | none => simp [h] at hb
  | some b =>
    simp only [beq_eq_false_iff_ne, ne_eq] at hm
    simp [callFunc, hf, h, hm]

theorem any_of {α : Type} (l : List α) (p : α → Bool) (k : Nat) (h : k < l.length) (hp : p l[k] = true) : l.any p = true := List.any_eq_true.2 ⟨_, List.getElem_mem h, hp⟩

set_option maxHeartbeats 400000 in
theorem index_write (S : Nat → Prop) (w : World) (a : Option Addr) (n c : Nat) (l : List Wr) (g : FuncId) (fi ca : Array Value) (p : Wr → Bool)
    (hs : Sl eWr S w a n c l) (hcf : ∀ args w, (callFunc g args).run Try.prog w = .ok (.enter g args) w)
    (hp : ∀ x c0 c1 w1, Below w.heap.size w w1 → eWr.rel S w [c0, c1] x → Calls Try.prog g (fi.push (.agg #[c0, c1]) ++ ca) w1 fun e w2 => e = .returned (.bool (p x)) ∧ Below w1.heap.size w1 w2) :
    Calls Try.prog 43 #[.slice a n c, .func (.func g) fi ca] w fun e w' => ∃ r : Int, e = .returned (.int .i64 r) ∧ decide (0 ≤ r) = l.any p ∧ Below w.heap.size w w' := by
  have hsn : n ≤ 140737488355328 := by have := hs.bytes; simp [eWr] at this; omega
  go_enter Try.func43, Try.ntmps43
  go_wp2
  go_loopw [5, 8] (fun _ i wr => ∃ k : Nat, k ≤ n ∧ i = .int .i64 k ∧ (l.take k).any p = false ∧ Below w.heap.size w wr) (fun _ i _ => n - (intOf i).toNat)
  case atStart => exact ⟨0, by omega, rfl, by simp, Below.refl _ _⟩
  case round =>
    obtain ⟨k, hk, rfl, hany, hbel⟩ := hrel
    have HA := Lib.hid hany
    clear hany
    by_cases hlt : k < n
    · have hl := hs.length
      obtain ⟨b, off, cs, rfl, hS, hb, hcl, hcell, oa, n1, c1, rfl, hr, hx⟩ := hs.elem k (by omega)
      have hc0 := hcell 0 (by simp [eWr])
      have hc1 := hcell 1 (by simp [eWr])
      simp only [eWr, Nat.add_zero, List.getElem?_cons_zero, List.getElem?_cons_succ] at hc0 hc1
      rw [← hbel.cell (by simpa using hb)] at hc0 hc1
      clear hcell hcl
      have hE : eWr.rel S w [.int .i64 l[k].at_, .slice oa n1 c1] l[k] := ⟨oa, n1, c1, rfl, hr, hx⟩
      have hpk := Lib.hid (hp _ _ _ wr hbel hE)
      clear hp hE
      cases hpx : p l[k] with
      | true =>
        rw [hpx] at hpk
        go_wp2_with ((with_reducible refine hpk.out.mono ?_); rintro e w2 ⟨rfl, hb2⟩)
        go_ret
        exact ⟨k, rfl, by rw [any_of l p k (by omega) hpx]; simp, hbel.trans (hb2.mono hbel.size)⟩
      | false =>
        rw [hpx] at hpk
        go_wp2_with ((with_reducible refine hpk.out.mono ?_); rintro e w2 ⟨rfl, hb2⟩)
        exact ⟨⟨k + 1, by omega, by go_num, by rw [any_take_snoc _ _ _ (by omega), HA.out, hpx]; rfl, hbel.trans (hb2.mono hbel.size)⟩, by simp [intOf]; omega⟩
    · go_wp2
      go_ret
      have hl := hs.length
      exact ⟨-1, rfl, by rw [← List.take_of_length_le (l := l) (i := k) (by omega), HA.out]; rfl, hbel⟩

set_option maxHeartbeats 400000 in
theorem index_bytes (S : Nat → Prop) (w : World) (a : Option Addr) (n c : Nat) (l : List Bytes) (g : FuncId) (fi ca : Array Value) (p : Bytes → Bool)
    (hs : Sl (eSl eByte) S w a n c l) (hcf : ∀ args w, (callFunc g args).run Try.prog w = .ok (.enter g args) w)
    (hp : ∀ x c0 w1, Below w.heap.size w w1 → (eSl eByte).rel S w [c0] x → Calls Try.prog g (fi.push c0 ++ ca) w1 fun e w2 => e = .returned (.bool (p x)) ∧ Below w1.heap.size w1 w2) :
    Calls Try.prog 44 #[.slice a n c, .func (.func g) fi ca] w fun e w' => ∃ r : Int, e = .returned (.int .i64 r) ∧ decide (0 ≤ r) = l.any p ∧ Below w.heap.size w w' := by
  have hsn : n ≤ 140737488355328 := by have := hs.bytes; simp [eSl] at this; omega
  go_enter Try.func44, Try.ntmps44
  go_wp2
  go_loopw [5, 8] (fun _ i wr => ∃ k : Nat, k ≤ n ∧ i = .int .i64 k ∧ (l.take k).any p = false ∧ Below w.heap.size w wr) (fun _ i _ => n - (intOf i).toNat)
  case atStart => exact ⟨0, by omega, rfl, by simp, Below.refl _ _⟩
  case round =>
    obtain ⟨k, hk, rfl, hany, hbel⟩ := hrel
    have HA := Lib.hid hany
    clear hany
    by_cases hlt : k < n
    · have hl := hs.length
      obtain ⟨b, off, cs, rfl, hS, hb, hcl, hcell, oa, n1, c1, rfl, hx⟩ := hs.elem k (by omega)
      have hc0 := hcell 0 (by simp [eSl])
      simp only [eSl, Nat.add_zero, Nat.mul_one, List.getElem?_cons_zero] at hc0
      rw [← hbel.cell (by simpa using hb)] at hc0
      clear hcell hcl
      have hE : (eSl eByte).rel S w [.slice oa n1 c1] l[k] := ⟨oa, n1, c1, rfl, hx⟩
      have hpk := Lib.hid (hp _ _ wr hbel hE)
      clear hp hE
      cases hpx : p l[k] with
      | true =>
        rw [hpx] at hpk
        go_wp2_with ((with_reducible refine hpk.out.mono ?_); rintro e w2 ⟨rfl, hb2⟩)
        go_ret
        exact ⟨k, rfl, by rw [any_of l p k (by omega) hpx]; simp, hbel.trans (hb2.mono hbel.size)⟩
      | false =>
        rw [hpx] at hpk
        go_wp2_with ((with_reducible refine hpk.out.mono ?_); rintro e w2 ⟨rfl, hb2⟩)
        exact ⟨⟨k + 1, by omega, by go_num, by rw [any_take_snoc _ _ _ (by omega), HA.out, hpx]; rfl, hbel.trans (hb2.mono hbel.size)⟩, by simp [intOf]; omega⟩
    · go_wp2
      go_ret
      have hl := hs.length
      exact ⟨-1, rfl, by rw [← List.take_of_length_le (l := l) (i := k) (by omega), HA.out]; rfl, hbel⟩

theorem contains_write (S : Nat → Prop) (w : World) (a : Option Addr) (n c : Nat) (l : List Wr) (g : FuncId) (fi ca : Array Value) (p : Wr → Bool)
    (hs : Sl eWr S w a n c l) (hcf : ∀ args w, (callFunc g args).run Try.prog w = .ok (.enter g args) w)
    (hp : ∀ x c0 c1 w1, Below w.heap.size w w1 → eWr.rel S w [c0, c1] x → Calls Try.prog g (fi.push (.agg #[c0, c1]) ++ ca) w1 fun e w2 => e = .returned (.bool (p x)) ∧ Below w1.heap.size w1 w2) :
    Calls Try.prog 32 #[.slice a n c, .func (.func g) fi ca] w fun e w' => e = .returned (.bool (l.any p)) ∧ Below w.heap.size w w' := by
  have H := Lib.hid (index_write S w a n c l g fi ca p hs hcf hp)
  clear hp hs
  go_enter Try.func32, Try.ntmps32
  go_wp2_with ((with_reducible refine H.out.mono ?_); rintro e w2 ⟨r, rfl, hr, hb2⟩; have HR := Lib.hid hr; clear hr)
  go_ret
  exact ⟨by rw [HR.out]; rfl, hb2⟩

theorem contains_bytes (S : Nat → Prop) (w : World) (a : Option Addr) (n c : Nat) (l : List Bytes) (g : FuncId) (fi ca : Array Value) (p : Bytes → Bool)
    (hs : Sl (eSl eByte) S w a n c l) (hcf : ∀ args w, (callFunc g args).run Try.prog w = .ok (.enter g args) w)
    (hp : ∀ x c0 w1, Below w.heap.size w w1 → (eSl eByte).rel S w [c0] x → Calls Try.prog g (fi.push c0 ++ ca) w1 fun e w2 => e = .returned (.bool (p x)) ∧ Below w1.heap.size w1 w2) :
    Calls Try.prog 33 #[.slice a n c, .func (.func g) fi ca] w fun e w' => e = .returned (.bool (l.any p)) ∧ Below w.heap.size w w' := by
  have H := Lib.hid (index_bytes S w a n c l g fi ca p hs hcf hp)
  clear hp hs
  go_enter Try.func33, Try.ntmps33
  go_wp2_with ((with_reducible refine H.out.mono ?_); rintro e w2 ⟨r, rfl, hr, hb2⟩; have HR := Lib.hid hr; clear hr)
  go_ret
  exact ⟨by rw [HR.out]; rfl, hb2⟩

theorem isSector_any (a : Option Addr) (n c : Nat) (w : World) :
    Calls Try.prog 31 #[.slice a n c] w fun e w' => e = .returned (.bool ((n : Int) == 128)) ∧ w = w' := by
  go_enter Try.func31, Try.ntmps31
  go_wp2
  go_ret
  exact ⟨rfl, rfl⟩

theorem check2_any (a : Option Addr) (n c : Nat) (w : World) :
    Calls Try.prog 34 #[.slice a n c] w fun e w' => e = .returned (.bool !((n : Int) == 128)) ∧ w = w' := by
  go_enter Try.func34, Try.ntmps34
  go_wp2_with (go_at_call 31; refine (isSector_any _ _ _ _).mono ?_; rintro e w' ⟨rfl, rfl⟩)
  go_ret
  exact ⟨rfl, rfl⟩

theorem ret_int {k : IntKind} {a b : Int} (h : a = b) : Ending.returned (.int k a) = .returned (.int k b) := by rw [h]
theorem ret_bool {a b : Bool} (h : a = b) : Ending.returned (.bool a) = .returned (.bool b) := by rw [h]

def badW (n : Nat) (x : Wr) : Bool := decide (x.at_ < 0) || decide ((n : Int) ≤ x.at_) || !((x.data.length : Int) == 128)
def badB (b : Bytes) : Bool := !((b.length : Int) == 128)
def Disk.ok (d : Disk) : Bool :=
  !(decide ((d.secs.length : Int) < 1) || decide ((4096 : Int) < d.secs.length) || decide ((4096 : Int) < d.pend.length) || decide (d.left < -1) || decide (65536 < d.left) || d.pend.any (badW d.secs.length)) && !d.secs.any badB
def checkF (d : Disk) : Int := if Disk.ok d then 0 else 40

theorem check1_any (at_ : Int) (n : Nat) (a : Option Addr) (len c : Nat) (b : Nat) (w : World) (hc : w.cell? ⟨b, 0, none⟩ = some (.int .i64 n)) (hp : b < w.heap.size) :
    Calls Try.prog 30 #[.agg #[.int .i64 at_, .slice a len c], .pointer (some ⟨b, 0, none⟩)] w fun e w' =>
      e = .returned (.bool (decide (at_ < 0) || decide ((n : Int) ≤ at_) || !((len : Int) == 128))) ∧ Below w.heap.size w w' := by
  have hc2 : (w.alloc (.cells #[.int .i64 at_, .slice a len c] 54)).cell? ⟨b, 0, none⟩ = some (.int .i64 n) := by
    rw [World.cell?_alloc_past _ _ _ hp]; exact hc
  go_enter Try.func30, Try.ntmps30
  go_wp2_with (go_at_call 31; refine (isSector_any _ _ _ _).mono ?_; rintro e w' ⟨rfl, rfl⟩)
  all_goals
    go_ret
    refine ⟨?_, (Below.refl _ _).alloc (Nat.le_refl _) _⟩
    first
    | rfl
    | (have h1 : at_ < 0 := by assumption
       simp [h1])
    | (have h1 : 0 ≤ at_ := by assumption
       have h2 : (n : Int) ≤ at_ := by assumption
       simp [h2])
    | (have h1 : 0 ≤ at_ := by assumption
       have h2 : at_ < (n : Int) := by assumption
       simp [show ¬ at_ < 0 by omega, show ¬ (n : Int) ≤ at_ by omega])

end Go.Proofs.Ytckcdokfhdckhaa

/- The walks of what checks a disk: disk.Check, its closures, and the reference's Check, over whatever disk lies in memory. -/
namespace Go.Proofs.Ytckcdokfhdckhaa
open Go.RowKit Go.Kx

theorem bcell {W w1 : World} (hb : Below W.heap.size W w1) : (∀ b o, b < W.heap.size → w1.cell? ⟨b, o, none⟩ = W.cell? ⟨b, o, none⟩) ∧ (∀ b o, b < W.heap.size → w1.frozen? ⟨b, o, none⟩ = W.frozen? ⟨b, o, none⟩) :=
  ⟨fun b o h => hb.cell (p := ⟨b, o, none⟩) h, fun b o h => hb.frozen (p := ⟨b, o, none⟩) h⟩

set_option maxHeartbeats 1000000 in
theorem check_any (S : Nat → Prop) (w : World) (sa : Option Addr) (sn sc : Nat) (pa : Option Addr) (pn pc : Nat) (left : Int) (st : Bool) (secs : List Bytes) (pend : List Wr)
    (hs : Sl (eSl eByte) S w sa sn sc secs) (hp : Sl eWr S w pa pn pc pend) :
    Calls Try.prog 15 #[.agg #[.slice sa sn sc, .slice pa pn pc, .int .i64 left, .bool st]] w fun e w' => e = .returned (.int .i64 (checkF ⟨secs, pend, left, st⟩)) ∧ Below w.heap.size w w' := by
  have hsn : sn ≤ 140737488355328 := by have := hs.bytes; simp [eSl] at this; omega
  have hpn : pn ≤ 140737488355328 := by have := hp.bytes; simp [eWr] at this; omega
  have hls := Lib.hid hs.length
  have hlp := Lib.hid hp.length
  have HS := Lib.hid hs
  have HP := Lib.hid hp
  clear hs hp
  go_enter Try.func15, Try.ntmps15
  go_wp2_with fail
  rotate_left 1
  all_goals try
    go_ret
    refine ⟨?_, ((Below.refl _ _).alloc (Nat.le_refl _) _).alloc (by simp) _⟩
    refine ret_int ?_
    have e1 := hls.out
    have e2 := hlp.out
    unfold checkF
    rw [if_neg]
    simp only [Disk.ok, e1, e2]
    simp [*]
  have hb0 : Below w.heap.size w ((w.alloc (.cells #[.slice sa sn sc, .slice pa pn pc, .int .i64 left, .bool st] 25)).alloc (.cells #[.int .i64 sn] 3)) := ((Below.refl _ _).alloc (Nat.le_refl _) _).alloc (by simp) _
  refine (contains_write S _ pa pn pc pend 30 #[] #[.pointer (some ⟨w.heap.size + 1, 0, none⟩)] (badW sn) (HP.out.below hb0) (entersOf Try.func30 (by kernel_rfl) rfl) ?_).mono ?_
  · rintro x c0 c1 w1 hb1 ⟨oa, n, c, hcs, hr, hx⟩
    simp only [List.cons.injEq, and_true] at hcs
    obtain ⟨rfl, rfl⟩ := hcs
    have hc := hb1.cell (p := ⟨w.heap.size + 1, 0, none⟩) (by simp)
    rw [show ((w.alloc (.cells #[.slice sa sn sc, .slice pa pn pc, .int .i64 left, .bool st] 25)).alloc (.cells #[.int .i64 sn] 3)).cell? ⟨w.heap.size + 1, 0, none⟩ = some (.int .i64 sn) by simp [go_sem]] at hc
    refine (check1_any x.at_ sn oa n c (w.heap.size + 1) w1 hc (by have := hb1.size; simp at this; omega)).mono ?_
    rintro e w2 ⟨rfl, hb2⟩
    exact ⟨by unfold badW; rw [hx.length], hb2⟩
  · rintro e w1 ⟨rfl, hb1⟩
    have hb2 := hb0.trans (hb1.mono (by simp; omega))
    obtain ⟨hcc, hff⟩ := bcell hb1
    cases hany : pend.any (badW sn) with
    | true =>
      go_wp2
      go_ret
      exact ⟨ret_int (by have e1 := hls.out; have e2 := hlp.out; simp only [checkF, Disk.ok, e1, e2, hany]; simp), hb2⟩
    | false =>
      go_wp2_with (go_at_call 33; refine (contains_bytes S _ sa sn sc secs 34 #[] #[] badB (HS.out.below hb2) (entersOf Try.func34 (by kernel_rfl) rfl) ?_).mono ?_)
      · rintro x c0 w2 hb3 ⟨oa, n, c, hcs, hx⟩
        simp only [List.cons.injEq, and_true] at hcs
        obtain rfl := hcs
        refine (check2_any oa n c w2).mono ?_
        rintro e w3 ⟨rfl, rfl⟩
        exact ⟨by unfold badB; rw [hx.length], Below.refl _ _⟩
      · rintro e w2 ⟨rfl, hb3⟩
        have hb4 := hb2.trans (hb3.mono hb2.size)
        go_wp2
        all_goals
          go_ret
          refine ⟨ret_int ?_, hb4⟩
          have e1 := hls.out
          have e2 := hlp.out
          simp only [checkF, Disk.ok, e1, e2, hany]
          simp [*]

theorem runs_any (S : Nat → Prop) (w : World) (sa : Option Addr) (sn sc : Nat) (pa : Option Addr) (pn pc : Nat) (left : Int) (st : Bool) (secs : List Bytes) (pend : List Wr)
    (hs : Sl (eSl eByte) S w sa sn sc secs) (hp : Sl eWr S w pa pn pc pend) :
    Calls Try.prog 35 #[.agg #[.slice sa sn sc, .slice pa pn pc, .int .i64 left, .bool st]] w fun e w' => e = .returned (.bool (Disk.ok ⟨secs, pend, left, st⟩ && !st)) ∧ Below w.heap.size w w' := by
  have hb0 : Below w.heap.size w (w.alloc (.cells #[.slice sa sn sc, .slice pa pn pc, .int .i64 left, .bool st] 25)) := (Below.refl _ _).alloc (Nat.le_refl _) _
  have H := Lib.hid (check_any S _ sa sn sc pa pn pc left st secs pend (hs.below hb0) (hp.below hb0))
  clear hs hp
  go_enter Try.func35, Try.ntmps35
  cases hok : Disk.ok ⟨secs, pend, left, st⟩ with
  | true =>
    have hck : checkF ⟨secs, pend, left, st⟩ = 0 := by simp [checkF, hok]
    rw [hck] at H
    go_wp2_with ((with_reducible refine H.out.mono ?_); rintro e w1 ⟨rfl, hb1⟩; obtain ⟨hcc, hff⟩ := bcell hb1)
    go_ret
    exact ⟨rfl, hb0.trans (hb1.mono (by simp))⟩
  | false =>
    have hck : checkF ⟨secs, pend, left, st⟩ = 40 := by simp [checkF, hok]
    rw [hck] at H
    go_wp2_with ((with_reducible refine H.out.mono ?_); rintro e w1 ⟨rfl, hb1⟩; obtain ⟨hcc, hff⟩ := bcell hb1)
    go_ret
    exact ⟨rfl, hb0.trans (hb1.mono (by simp))⟩

theorem has_any (w : World) (sa : Option Addr) (sn sc : Nat) (pa : Option Addr) (pn pc : Nat) (left : Int) (st : Bool) (at_ : Int) :
    Calls Try.prog 36 #[.agg #[.slice sa sn sc, .slice pa pn pc, .int .i64 left, .bool st], .int .i64 at_] w fun e w' => e = .returned (.bool (decide (0 ≤ at_) && decide (at_ < (sn : Int)))) ∧ Below w.heap.size w w' := by
  go_enter Try.func36, Try.ntmps36
  go_wp2
  all_goals
    go_ret
    refine ⟨ret_bool ?_, (Below.refl _ _).alloc (Nat.le_refl _) _⟩
    first | (simp [*]; done) | (simp [*]; omega)

end Go.Proofs.Ytckcdokfhdckhaa

/- The walks of Restart, Stop and the reference's Check, Few, Restart, Stop. -/
namespace Go.Proofs.Ytckcdokfhdckhaa
open Go.RowKit Go.Kx

def stopF (d : Disk) (left : Int) : Disk × Int := if Disk.ok d && !d.stopped then (if decide (left < 0) || decide (65536 < left) then (zeroDisk, 1) else ({ d with left := left }, 0)) else (zeroDisk, 40)
def restartF (d : Disk) : Disk := ⟨d.secs, [], -1, false⟩

set_option maxHeartbeats 400000 in
theorem stop_any (S : Nat → Prop) (w : World) (sa : Option Addr) (sn sc : Nat) (pa : Option Addr) (pn pc : Nat) (D : Disk) (left : Int) (h0 : -9223372036854775808 ≤ left ∧ left ≤ 9223372036854775807)
    (h : DiskAt S w sa sn sc pa pn pc D) :
    Calls Try.prog 25 #[.agg #[.slice sa sn sc, .slice pa pn pc, .int .i64 D.left, .bool D.stopped], .int .i64 left] w (RetDisk S w (stopF D left)) := by
  have hb0 : Below w.heap.size w ((w.alloc (.cells #[.slice sa sn sc, .slice pa pn pc, .int .i64 D.left, .bool D.stopped] 25)).alloc (.cells #[.slice none 0 0, .slice none 0 0, .int .i64 0, .bool false] 25)) :=
    ((Below.refl _ _).alloc (Nat.le_refl _) _).alloc (by simp) _
  have H := Lib.hid (runs_any S _ sa sn sc pa pn pc D.left D.stopped D.secs D.pend (h.secs.below hb0) (h.pend.below hb0))
  have HD := Lib.hid h
  clear h
  cases hok : Disk.ok D && !D.stopped with
  | false =>
    rw [show (Disk.ok { secs := D.secs, pend := D.pend, left := D.left, stopped := D.stopped } && !D.stopped) = false from hok] at H
    go_enter Try.func25, Try.ntmps25
    go_wp2_with ((with_reducible refine H.out.mono ?_); rintro e w1 ⟨rfl, hb1⟩; obtain ⟨hcc, hff⟩ := bcell hb1; have hz : w.heap.size + 1 < w1.heap.size := (by have := hb1.size; simp at this; omega))
    refine bodyPost_ret (v := .tuple #[.agg #[.slice none 0 0, .slice none 0 0, .int .i64 0, .bool false], .int .i64 40]) (by simp [results, Try.results25, go_sem, hcc]) rfl ?_
    have hb2 := hb0.trans (hb1.mono (by simp; omega))
    exact RetDisk.zero (by simp only [stopF, hok]; rfl) (by (repeat (first | (with_reducible assumption) | exact Below.refl _ _ | refine Below.setCell ?_ (by first | (simp; done) | (simp; omega) | omega) _ | refine Below.alloc ?_ (by first | (simp; done) | (simp; omega) | omega) _ | refine Below.drew ?_ | refine below_drewN ?_ _)))
  | true =>
    rw [show (Disk.ok { secs := D.secs, pend := D.pend, left := D.left, stopped := D.stopped } && !D.stopped) = true from hok] at H
    go_enter Try.func25, Try.ntmps25
    go_wp2_with ((with_reducible refine H.out.mono ?_); rintro e w1 ⟨rfl, hb1⟩; obtain ⟨hcc, hff⟩ := bcell hb1; have hz : w.heap.size + 1 < w1.heap.size := (by have := hb1.size; simp at this; omega); have hA2 : w1.cell? ⟨w.heap.size, 2, none⟩ = some (.int .i64 D.left) := (hcc _ _ (by simp; omega)).trans (by simp [go_sem]))
    all_goals have hb2 := hb0.trans (hb1.mono (by simp; omega))
    · refine bodyPost_ret (v := .tuple #[.agg #[.slice none 0 0, .slice none 0 0, .int .i64 0, .bool false], .int .i64 1]) (by simp [results, Try.results25, go_sem, hcc]) rfl ?_
      exact RetDisk.zero (by simp only [stopF, hok]; simp [*]) (by (repeat (first | (with_reducible assumption) | exact Below.refl _ _ | refine Below.setCell ?_ (by first | (simp; done) | (simp; omega) | omega) _ | refine Below.alloc ?_ (by first | (simp; done) | (simp; omega) | omega) _ | refine Below.drew ?_ | refine below_drewN ?_ _)))
    · refine bodyPost_ret (v := .tuple #[.agg #[.slice sa sn sc, .slice pa pn pc, .int .i64 left, .bool D.stopped], .int .i64 0]) (by simp [results, Try.results25, go_sem, hcc]) rfl ?_
      exact RetDisk.of (D := { D with left := left }) (by simp only [stopF, hok]; simp [*]) rfl rfl (by (repeat (first | (with_reducible assumption) | exact Below.refl _ _ | refine Below.setCell ?_ (by first | (simp; done) | (simp; omega) | omega) _ | refine Below.alloc ?_ (by first | (simp; done) | (simp; omega) | omega) _ | refine Below.drew ?_ | refine below_drewN ?_ _))) fun hb => ⟨HD.out.secs.mono (keepUp_of_below hb), HD.out.pend.mono (keepUp_of_below hb), h0.1, h0.2⟩
    · refine bodyPost_ret (v := .tuple #[.agg #[.slice none 0 0, .slice none 0 0, .int .i64 0, .bool false], .int .i64 1]) (by simp [results, Try.results25, go_sem, hcc]) rfl ?_
      exact RetDisk.zero (by simp only [stopF, hok]; simp [*]) (by (repeat (first | (with_reducible assumption) | exact Below.refl _ _ | refine Below.setCell ?_ (by first | (simp; done) | (simp; omega) | omega) _ | refine Below.alloc ?_ (by first | (simp; done) | (simp; omega) | omega) _ | refine Below.drew ?_ | refine below_drewN ?_ _)))

end Go.Proofs.Ytckcdokfhdckhaa

/- The walks of the reference's Check, Few and Stop, and of both Restart. -/
namespace Go.Proofs.Ytckcdokfhdckhaa
open Go.RowKit Go.Kx

/-- The k-th element of a slice of []byte, in a later world. -/
theorem Sl.row {S : Nat → Prop} {w wr : World} {a : Option Addr} {n c : Nat} {l : List Bytes} (h : Sl (eSl eByte) S w a n c l) (hb : Below w.heap.size w wr) (k : Nat) (hk : k < l.length) :
    ∃ b off oa n1 c1, a = some ⟨b, off, none⟩ ∧ b < w.heap.size ∧ S b ∧ wr.cell? ⟨b, off + k, none⟩ = some (.slice oa n1 c1) ∧ Sl eByte S w oa n1 c1 l[k] := by
  obtain ⟨b, off, cs, rfl, hS, hlt, hcl, hcell, oa, n1, c1, rfl, hx⟩ := h.elem k hk
  have hc0 := hcell 0 (by simp [eSl])
  simp only [eSl, Nat.add_zero, Nat.mul_one, List.getElem?_cons_zero] at hc0
  rw [← hb.cell (by simpa using hlt)] at hc0
  exact ⟨b, off, oa, n1, c1, rfl, hlt, hS, hc0, hx⟩

theorem Sl.wr {S : Nat → Prop} {w wr : World} {a : Option Addr} {n c : Nat} {l : List Wr} (h : Sl eWr S w a n c l) (hb : Below w.heap.size w wr) (k : Nat) (hk : k < l.length) :
    ∃ b off oa n1 c1, a = some ⟨b, off, none⟩ ∧ b < w.heap.size ∧ S b ∧ wr.cell? ⟨b, off + k * 2, none⟩ = some (.int .i64 l[k].at_) ∧ wr.cell? ⟨b, off + k * 2 + 1, none⟩ = some (.slice oa n1 c1) ∧ Sl eByte S w oa n1 c1 l[k].data ∧
      -9223372036854775808 ≤ l[k].at_ ∧ l[k].at_ ≤ 9223372036854775807 := by
  obtain ⟨b, off, cs, rfl, hS, hlt, hcl, hcell, oa, n1, c1, rfl, hr, hx⟩ := h.elem k hk
  have hc0 := hcell 0 (by simp [eWr])
  have hc1 := hcell 1 (by simp [eWr])
  simp only [eWr, Nat.add_zero, List.getElem?_cons_zero, List.getElem?_cons_succ] at hc0 hc1
  rw [← hb.cell (by simpa using hlt)] at hc0 hc1
  exact ⟨b, off, oa, n1, c1, rfl, hlt, hS, hc0, hc1, hx, hr⟩

set_option maxHeartbeats 1000000 in
theorem rcheck_any (S : Nat → Prop) (w : World) (sa : Option Addr) (sn sc : Nat) (pa : Option Addr) (pn pc : Nat) (left : Int) (st : Bool) (secs : List Bytes) (pend : List Wr)
    (hs : Sl (eSl eByte) S w sa sn sc secs) (hp : Sl eWr S w pa pn pc pend) :
    Calls Try.prog 16 #[.agg #[.slice sa sn sc, .slice pa pn pc, .int .i64 left, .bool st]] w fun e w' => e = .returned (.int .i64 (checkF ⟨secs, pend, left, st⟩)) ∧ Below w.heap.size w w' := by
  have hsn : sn ≤ 140737488355328 := by have := hs.bytes; simp [eSl] at this; omega
  have hpn : pn ≤ 140737488355328 := by have := hp.bytes; simp [eWr] at this; omega
  have hls := Lib.hid hs.length
  have hlp := Lib.hid hp.length
  have HS := Lib.hid hs
  have HP := Lib.hid hp
  clear hs hp
  by_cases hg : (1 ≤ (sn : Int) ∧ (sn : Int) ≤ 4096 ∧ (pn : Int) ≤ 4096) ∧ -1 ≤ left ∧ left ≤ 65536
  · obtain ⟨⟨g1, g2, g3⟩, g4, g5⟩ := hg
    have hck : checkF ⟨secs, pend, left, st⟩ = if pend.any (badW sn) || secs.any badB then 40 else 0 := by
      have e1 := hls.out
      have e2 := hlp.out
      simp only [checkF, Disk.ok, e1, e2]
      rw [decide_eq_false (by omega : ¬ (sn : Int) < 1), decide_eq_false (by omega : ¬ 4096 < (sn : Int)), decide_eq_false (by omega : ¬ 4096 < (pn : Int)), decide_eq_false (by omega : ¬ left < -1), decide_eq_false (by omega : ¬ 65536 < left)]
      cases pend.any (badW sn) <;> cases secs.any badB <;> rfl
    have HCK := Lib.hid hck
    clear hck
    go_enter Try.func16, Try.ntmps16
    go_wp2
    go_loop [4] (fun i => ∃ k : Nat, k ≤ sn ∧ i = .int .i64 k ∧ (secs.take k).any badB = false) (fun i => sn - (intOf i).toNat)
    case atStart => exact ⟨0, by omega, rfl, by simp⟩
    case round =>
      obtain ⟨k, hk, rfl, hany⟩ := hrel
      have HA := Lib.hid hany
      clear hany
      by_cases hlt : k < sn
      · obtain ⟨b, off, oa, n1, c1, rfl, hb, hS, hc0, hx⟩ := Sl.row HS.out (Below.refl _ w) k (by have := hls.out; omega)
        have hn1 := hx.bytes
        have hl1 := hx.length
        simp only [eByte, Nat.mul_one] at hn1
        have HX := Lib.hid hl1
        clear hx hl1
        by_cases h128 : (n1 : Int) = 128
        · have hbb : badB (secs[k]'(by have := hls.out; omega)) = false := by unfold badB; rw [HX.out, h128]; rfl
          have h128' : (((n1 : Int)) != 128) = false := by simp [h128]
          have HB := Lib.hid hbb
          clear hbb h128
          go_wp2
          go_round
          case rel => exact ⟨k + 1, by omega, by go_num, by rw [any_take_snoc _ _ _ (by have := hls.out; omega), HA.out, HB.out]; rfl⟩
          case measure => simp [intOf]; omega
        · have hbb : badB (secs[k]'(by have := hls.out; omega)) = true := by unfold badB; rw [HX.out]; simp [h128]
          have h128' : (((n1 : Int)) != 128) = true := by simp [h128]
          have hfin : secs.any badB = true := any_of _ _ _ _ hbb
          have HB := Lib.hid hfin
          clear hbb h128 hfin
          go_wp2
          go_ret
          exact ⟨ret_int (by rw [HCK.out, HB.out]; simp), by (repeat (first | (with_reducible assumption) | exact Below.refl _ _ | refine Below.setCell ?_ (by first | (simp; done) | (simp; omega) | omega) _ | refine Below.alloc ?_ (by first | (simp; done) | (simp; omega) | omega) _ | refine Below.drew ?_ | refine below_drewN ?_ _))⟩
      · have hfin : secs.any badB = false := by rw [← List.take_of_length_le (l := secs) (i := k) (by have := hls.out; omega), HA.out]
        have HF := Lib.hid hfin
        clear hfin
        go_wp2
        have hb0 : Below w.heap.size w (w.alloc (.cells #[.slice sa sn sc, .slice pa pn pc, .int .i64 left, .bool st] 25)) := by (repeat (first | (with_reducible assumption) | exact Below.refl _ _ | refine Below.setCell ?_ (by first | (simp; done) | (simp; omega) | omega) _ | refine Below.alloc ?_ (by first | (simp; done) | (simp; omega) | omega) _ | refine Below.drew ?_ | refine below_drewN ?_ _))
        obtain ⟨W0, hW0⟩ : ∃ W0, W0 = w.alloc (.cells #[.slice sa sn sc, .slice pa pn pc, .int .i64 left, .bool st] 25) := ⟨_, rfl⟩
        go_loopw [5] (fun i wr => ∃ k : Nat, k ≤ pn ∧ i = .int .i64 k ∧ (pend.take k).any (badW sn) = false ∧ Below (w.heap.size + 1) (w.alloc (.cells #[.slice sa sn sc, .slice pa pn pc, .int .i64 left, .bool st] 25)) wr) (fun i _ => pn - (intOf i).toNat)
        case atStart => exact ⟨0, by omega, rfl, by simp, Below.refl _ _⟩
        case round =>
          obtain ⟨k, hk, rfl, hany, hbel⟩ := hrel
          have HA := Lib.hid hany
          clear hany
          have hbw : Below w.heap.size w wr := hb0.trans (hbel.mono (by omega))
          have hB0 : ∀ j v, (#[Value.slice sa sn sc, .slice pa pn pc, .int .i64 left, .bool st])[j]? = some v → wr.cell? ⟨w.heap.size, j, none⟩ = some v := fun j v hv => by rw [hbel.cell (by simp)]; simpa [go_sem] using hv
          have c1 := hB0 1 _ rfl
          clear hB0
          have hzz := hbel.size
          simp at hzz
          by_cases hlt : k < pn
          · obtain ⟨b, off, oa, n1, cc, rfl, hb, hS, hc0, hc1, hx, hlo, hhi⟩ := Sl.wr HP.out hbw k (by have := hlp.out; omega)
            have hl1 := Lib.hid hx.length
            have hkl : k < pend.length := by have := hlp.out; omega
            obtain ⟨x, hx0⟩ : ∃ x, x = pend[k] := ⟨_, rfl⟩
            rw [← hx0] at hc0 hlo hhi hl1
            have HX := Lib.hid hx0
            clear hx hx0
            by_cases h1 : x.at_ < 0 ∨ (sn : Int) ≤ x.at_ ∨ (n1 : Int) ≠ 128
            · have hfin : pend.any (badW sn) = true := any_of _ _ k hkl (by
                have e := hl1.out
                rw [← HX.out]
                simp only [badW, e]
                rcases h1 with h1 | h1 | h1 <;> simp [h1])
              have HF2 := Lib.hid hfin
              clear hfin
              rcases h1 with h1 | h1 | h1
              · go_wp2
                go_ret
                exact ⟨ret_int (by rw [HCK.out, HF2.out]; simp), by (repeat (first | (with_reducible assumption) | exact Below.refl _ _ | refine Below.setCell ?_ (by first | (simp; done) | (simp; omega) | omega) _ | refine Below.alloc ?_ (by first | (simp; done) | (simp; omega) | omega) _ | refine Below.drew ?_ | refine below_drewN ?_ _))⟩
              · go_wp2
                all_goals
                  go_ret
                  exact ⟨ret_int (by rw [HCK.out, HF2.out]; simp), by (repeat (first | (with_reducible assumption) | exact Below.refl _ _ | refine Below.setCell ?_ (by first | (simp; done) | (simp; omega) | omega) _ | refine Below.alloc ?_ (by first | (simp; done) | (simp; omega) | omega) _ | refine Below.drew ?_ | refine below_drewN ?_ _))⟩
              · have h1' : (((n1 : Int)) != 128) = true := by simp [h1]
                go_wp2
                all_goals
                  go_ret
                  exact ⟨ret_int (by rw [HCK.out, HF2.out]; simp), by (repeat (first | (with_reducible assumption) | exact Below.refl _ _ | refine Below.setCell ?_ (by first | (simp; done) | (simp; omega) | omega) _ | refine Below.alloc ?_ (by first | (simp; done) | (simp; omega) | omega) _ | refine Below.drew ?_ | refine below_drewN ?_ _))⟩
            · have h2 : 0 ≤ x.at_ := by omega
              have h3 : x.at_ < (sn : Int) := by omega
              have h4 : (n1 : Int) = 128 := by omega
              have h5 : (((n1 : Int)) != 128) = false := by simp [h4]
              have hfin : badW sn pend[k] = false := by
                have e := hl1.out
                rw [← HX.out]
                simp only [badW, e, h4]
                simp [show ¬ x.at_ < 0 by omega, show ¬ (sn : Int) ≤ x.at_ by omega]
              have HF2 := Lib.hid hfin
              clear hfin h1 h4
              go_wp2
              go_roundw
              case rel => exact ⟨k + 1, by omega, by go_num, by rw [any_take_snoc _ _ _ hkl, HA.out, HF2.out]; rfl, by (repeat (first | (with_reducible assumption) | exact Below.refl _ _ | refine Below.setCell ?_ (by first | (simp; done) | (simp; omega) | omega) _ | refine Below.alloc ?_ (by first | (simp; done) | (simp; omega) | omega) _ | refine Below.drew ?_ | refine below_drewN ?_ _))⟩
              case measure => simp [intOf]; omega
          · have hfin : pend.any (badW sn) = false := by rw [← List.take_of_length_le (l := pend) (i := k) (by have := hlp.out; omega), HA.out]
            have HF2 := Lib.hid hfin
            clear hfin
            go_wp2
            go_ret
            exact ⟨ret_int (by rw [HCK.out, HF2.out, HF.out]; simp), by (repeat (first | (with_reducible assumption) | exact Below.refl _ _ | refine Below.setCell ?_ (by first | (simp; done) | (simp; omega) | omega) _ | refine Below.alloc ?_ (by first | (simp; done) | (simp; omega) | omega) _ | refine Below.drew ?_ | refine below_drewN ?_ _))⟩
  · have hck : checkF ⟨secs, pend, left, st⟩ = 40 := by
      have e1 := hls.out
      have e2 := hlp.out
      simp only [checkF, Disk.ok, e1, e2]
      rw [if_neg]
      simp
      omega
    rw [hck]
    go_enter Try.func16, Try.ntmps16
    by_cases q1 : (sn : Int) < 1
    · go_wp2
      go_ret
      exact ⟨rfl, by (repeat (first | (with_reducible assumption) | exact Below.refl _ _ | refine Below.setCell ?_ (by first | (simp; done) | (simp; omega) | omega) _ | refine Below.alloc ?_ (by first | (simp; done) | (simp; omega) | omega) _ | refine Below.drew ?_ | refine below_drewN ?_ _))⟩
    by_cases q2 : 4096 < (sn : Int)
    · go_wp2
      go_ret
      exact ⟨rfl, by (repeat (first | (with_reducible assumption) | exact Below.refl _ _ | refine Below.setCell ?_ (by first | (simp; done) | (simp; omega) | omega) _ | refine Below.alloc ?_ (by first | (simp; done) | (simp; omega) | omega) _ | refine Below.drew ?_ | refine below_drewN ?_ _))⟩
    by_cases q3 : 4096 < (pn : Int)
    · go_wp2
      go_ret
      exact ⟨rfl, by (repeat (first | (with_reducible assumption) | exact Below.refl _ _ | refine Below.setCell ?_ (by first | (simp; done) | (simp; omega) | omega) _ | refine Below.alloc ?_ (by first | (simp; done) | (simp; omega) | omega) _ | refine Below.drew ?_ | refine below_drewN ?_ _))⟩
    by_cases q4 : left < -1
    · go_wp2
      go_ret
      exact ⟨rfl, by (repeat (first | (with_reducible assumption) | exact Below.refl _ _ | refine Below.setCell ?_ (by first | (simp; done) | (simp; omega) | omega) _ | refine Below.alloc ?_ (by first | (simp; done) | (simp; omega) | omega) _ | refine Below.drew ?_ | refine below_drewN ?_ _))⟩
    have q5 : 65536 < left := by omega
    go_wp2
    go_ret
    exact ⟨rfl, by (repeat (first | (with_reducible assumption) | exact Below.refl _ _ | refine Below.setCell ?_ (by first | (simp; done) | (simp; omega) | omega) _ | refine Below.alloc ?_ (by first | (simp; done) | (simp; omega) | omega) _ | refine Below.drew ?_ | refine below_drewN ?_ _))⟩

end Go.Proofs.Ytckcdokfhdckhaa

/- The walks of the reference's Few and Stop, and of both Restart. -/
namespace Go.Proofs.Ytckcdokfhdckhaa
open Go.RowKit Go.Kx

set_option maxHeartbeats 1000000 in
theorem few_any (S : Nat → Prop) (w : World) (sa : Option Addr) (sn sc : Nat) (pa : Option Addr) (pn pc : Nat) (left : Int) (st : Bool) (secs : List Bytes) (pend : List Wr)
    (hs : Sl (eSl eByte) S w sa sn sc secs) (hp : Sl eWr S w pa pn pc pend) :
    Calls Try.prog 11 #[.agg #[.slice sa sn sc, .slice pa pn pc, .int .i64 left, .bool st]] w (SomeBool w) := by
  have hsn : sn ≤ 140737488355328 := by have := hs.bytes; simp [eSl] at this; omega
  have hpn : pn ≤ 140737488355328 := by have := hp.bytes; simp [eWr] at this; omega
  have hls := Lib.hid hs.length
  have hlp := Lib.hid hp.length
  have HS := Lib.hid hs
  have HP := Lib.hid hp
  clear hs hp
  go_enter Try.func11, Try.ntmps11
  go_wp2
  go_loop [3, 4] (fun n i => ∃ k m : Nat, k ≤ sn ∧ i = .int .i64 k ∧ n = .int .i64 m ∧ m ≤ 9000 + 140737488355329) (fun _ i => sn - (intOf i).toNat)
  case atStart => exact ⟨0, 0, by omega, rfl, rfl, by omega⟩
  case round =>
    obtain ⟨k, m, hk, rfl, rfl, hm⟩ := hrel
    by_cases hlt : k < sn ∧ m ≤ 9000
    · obtain ⟨hlt, hm9⟩ := hlt
      obtain ⟨b, off, oa, n1, c1, rfl, hb, hS, hc0, hx⟩ := Sl.row HS.out (Below.refl _ w) k (by have := hls.out; omega)
      have hn1 := hx.bytes
      simp only [eByte, Nat.mul_one] at hn1
      clear hx
      go_wp2
      go_round
      case rel => exact ⟨k + 1, m + 1 + n1, by omega, by go_num, by go_num, by omega⟩
      case measure => simp [intOf]; omega
    · by_cases hlt2 : k < sn
      all_goals
        first
        | (have _t := hlt2
           have hm9 : (9000 : Int) < m := by omega
           clear hlt)
        | clear hlt
        go_wp2
        go_loop [3, 5] (fun n i => ∃ k m : Nat, k ≤ pn ∧ i = .int .i64 k ∧ n = .int .i64 m ∧ m ≤ 9000 + 140737488355329) (fun _ i => pn - (intOf i).toNat)
        case atStart => exact ⟨0, m, by omega, rfl, rfl, by omega⟩
        case round =>
          obtain ⟨k, m, hk, rfl, rfl, hm⟩ := hrel
          by_cases hlt : k < pn ∧ m ≤ 9000
          · obtain ⟨hlt, hm9⟩ := hlt
            obtain ⟨b, off, oa, n1, cc, rfl, hb, hS, hc0, hc1, hx, hlo, hhi⟩ := Sl.wr HP.out (Below.refl _ w) k (by have := hlp.out; omega)
            have hn1 := hx.bytes
            simp only [eByte, Nat.mul_one] at hn1
            clear hx
            go_wp2
            go_round
            case rel => exact ⟨k + 1, m + 1 + n1, by omega, by go_num, by go_num, by omega⟩
            case measure => simp [intOf]; omega
          · by_cases hlt2 : k < pn
            all_goals
              first
              | (have hm9 : (9000 : Int) < m := by omega
                 clear hlt)
              | clear hlt
              go_wp2
              go_ret
              exact SomeBool.mk (by (repeat (first | (with_reducible assumption) | exact Below.refl _ _ | refine Below.setCell ?_ (by first | (simp; done) | (simp; omega) | omega) _ | refine Below.alloc ?_ (by first | (simp; done) | (simp; omega) | omega) _ | refine Below.drew ?_ | refine below_drewN ?_ _)))

/-- What a function hands back that returns a disk. -/
def RetDisk1 (S : Nat → Prop) (w : World) (r : Disk) (e : Ending) (w' : World) : Prop :=
  ∃ sa sn sc pa pn pc, e = .returned (.agg #[.slice sa sn sc, .slice pa pn pc, .int .i64 r.left, .bool r.stopped]) ∧ DiskAt (Up S w) w' sa sn sc pa pn pc r ∧ Below w.heap.size w w'

theorem restart_any (S : Nat → Prop) (w : World) (sa : Option Addr) (sn sc : Nat) (pa : Option Addr) (pn pc : Nat) (D : Disk) (h : DiskAt S w sa sn sc pa pn pc D) :
    Calls Try.prog 17 #[.agg #[.slice sa sn sc, .slice pa pn pc, .int .i64 D.left, .bool D.stopped]] w (RetDisk1 S w (restartF D)) := by
  have HD := Lib.hid h
  clear h
  go_enter Try.func17, Try.ntmps17
  go_wp2
  refine bodyPost_end (v := .agg #[.slice sa sn sc, .slice none 0 0, .int .i64 (-1), .bool false]) (by simp [results, Try.results17, go_sem]) rfl ?_
  have hb : Below w.heap.size w ((w.alloc (.cells #[.slice sa sn sc, .slice pa pn pc, .int .i64 D.left, .bool D.stopped] 25)).alloc (.cells #[.slice sa sn sc, .slice none 0 0, .int .i64 (-1), .bool false] 25)) := by (repeat (first | (with_reducible assumption) | exact Below.refl _ _ | refine Below.setCell ?_ (by first | (simp; done) | (simp; omega) | omega) _ | refine Below.alloc ?_ (by first | (simp; done) | (simp; omega) | omega) _ | refine Below.drew ?_ | refine below_drewN ?_ _))
  exact ⟨sa, sn, sc, none, 0, 0, rfl, ⟨HD.out.secs.mono (keepUp_of_below hb), Sl.zero _ _ _, by show (-9223372036854775808 : Int) ≤ -1; decide, by show (-1 : Int) ≤ 9223372036854775807; decide⟩, hb⟩

theorem rrestart_any (S : Nat → Prop) (w : World) (sa : Option Addr) (sn sc : Nat) (pa : Option Addr) (pn pc : Nat) (D : Disk) (h : DiskAt S w sa sn sc pa pn pc D) :
    Calls Try.prog 18 #[.agg #[.slice sa sn sc, .slice pa pn pc, .int .i64 D.left, .bool D.stopped]] w (RetDisk1 S w (restartF D)) := by
  have HD := Lib.hid h
  clear h
  go_enter Try.func18, Try.ntmps18
  go_wp2
  refine bodyPost_end (v := .agg #[.slice sa sn sc, .slice none 0 0, .int .i64 (-1), .bool false]) (by simp [results, Try.results18, go_sem]) rfl ?_
  have hb : Below w.heap.size w ((w.alloc (.cells #[.slice sa sn sc, .slice pa pn pc, .int .i64 D.left, .bool D.stopped] 25)).alloc (.cells #[.slice sa sn sc, .slice none 0 0, .int .i64 (-1), .bool false] 25)) := by (repeat (first | (with_reducible assumption) | exact Below.refl _ _ | refine Below.setCell ?_ (by first | (simp; done) | (simp; omega) | omega) _ | refine Below.alloc ?_ (by first | (simp; done) | (simp; omega) | omega) _ | refine Below.drew ?_ | refine below_drewN ?_ _))
  exact ⟨sa, sn, sc, none, 0, 0, rfl, ⟨HD.out.secs.mono (keepUp_of_below hb), Sl.zero _ _ _, by show (-9223372036854775808 : Int) ≤ -1; decide, by show (-1 : Int) ≤ 9223372036854775807; decide⟩, hb⟩

set_option maxHeartbeats 400000 in
theorem rstop_any (S : Nat → Prop) (w : World) (sa : Option Addr) (sn sc : Nat) (pa : Option Addr) (pn pc : Nat) (D : Disk) (left : Int) (h0 : -9223372036854775808 ≤ left ∧ left ≤ 9223372036854775807)
    (h : DiskAt S w sa sn sc pa pn pc D) :
    Calls Try.prog 26 #[.agg #[.slice sa sn sc, .slice pa pn pc, .int .i64 D.left, .bool D.stopped], .int .i64 left] w (RetDisk S w (stopF D left)) := by
  have hb0 : Below w.heap.size w ((w.alloc (.cells #[.slice sa sn sc, .slice pa pn pc, .int .i64 D.left, .bool D.stopped] 25)).alloc (.cells #[.slice none 0 0, .slice none 0 0, .int .i64 0, .bool false] 25)) :=
    ((Below.refl _ _).alloc (Nat.le_refl _) _).alloc (by simp) _
  have H := Lib.hid (rcheck_any S _ sa sn sc pa pn pc D.left D.stopped D.secs D.pend (h.secs.below hb0) (h.pend.below hb0))
  have HD := Lib.hid h
  clear h
  have hckf : checkF ⟨D.secs, D.pend, D.left, D.stopped⟩ = if Disk.ok D then 0 else 40 := rfl
  rw [hckf] at H
  clear hckf
  cases hok : Disk.ok D with
  | false =>
    have hst : stopF D left = (zeroDisk, 40) := by simp only [stopF, hok]; rfl
    have HST := Lib.hid hst
    clear hst
    rw [if_neg (by simp [hok])] at H
    clear hok
    go_enter Try.func26, Try.ntmps26
    go_wp2_with ((with_reducible refine H.out.mono ?_); rintro e w1 ⟨rfl, hb1⟩; obtain ⟨hcc, hff⟩ := bcell hb1; have hz : w.heap.size + 1 < w1.heap.size := (by have := hb1.size; simp at this; omega))
    refine bodyPost_ret (v := .tuple #[.agg #[.slice none 0 0, .slice none 0 0, .int .i64 0, .bool false], .int .i64 40]) (by simp [results, Try.results26, go_sem, hcc]) rfl ?_
    have hb2 := hb0.trans (hb1.mono (by simp; omega))
    exact RetDisk.zero HST.out (by (repeat (first | (with_reducible assumption) | exact Below.refl _ _ | refine Below.setCell ?_ (by first | (simp; done) | (simp; omega) | omega) _ | refine Below.alloc ?_ (by first | (simp; done) | (simp; omega) | omega) _ | refine Below.drew ?_ | refine below_drewN ?_ _)))
  | true =>
    rw [if_pos hok] at H
    cases hst : D.stopped with
    | true =>
      have hst' : stopF D left = (zeroDisk, 40) := by simp only [stopF, hok, hst]; rfl
      have HST := Lib.hid hst'
      rw [hst] at H hb0
      clear hst' hok hst
      go_enter Try.func26, Try.ntmps26
      go_wp2_with ((with_reducible refine H.out.mono ?_); rintro e w1 ⟨rfl, hb1⟩; obtain ⟨hcc, hff⟩ := bcell hb1; have hz : w.heap.size + 1 < w1.heap.size := (by have := hb1.size; simp at this; omega))
      refine bodyPost_ret (v := .tuple #[.agg #[.slice none 0 0, .slice none 0 0, .int .i64 0, .bool false], .int .i64 40]) (by simp [results, Try.results26, go_sem, hcc]) rfl ?_
      have hb2 := hb0.trans (hb1.mono (by simp; omega))
      exact RetDisk.zero HST.out (by (repeat (first | (with_reducible assumption) | exact Below.refl _ _ | refine Below.setCell ?_ (by first | (simp; done) | (simp; omega) | omega) _ | refine Below.alloc ?_ (by first | (simp; done) | (simp; omega) | omega) _ | refine Below.drew ?_ | refine below_drewN ?_ _)))
    | false =>
      have hst' : stopF D left = if decide (left < 0) || decide (65536 < left) then (zeroDisk, 1) else ({ D with left := left }, 0) := by simp only [stopF, hok, hst]; rfl
      have HST := Lib.hid hst'
      have HSS := Lib.hid hst
      rw [hst] at H hb0
      clear hst' hok hst
      go_enter Try.func26, Try.ntmps26
      go_wp2_with ((with_reducible refine H.out.mono ?_); rintro e w1 ⟨rfl, hb1⟩; obtain ⟨hcc, hff⟩ := bcell hb1; have hz : w.heap.size + 1 < w1.heap.size := (by have := hb1.size; simp at this; omega); have hA2 : w1.cell? ⟨w.heap.size, 2, none⟩ = some (.int .i64 D.left) := (hcc _ _ (by simp; omega)).trans (by simp [go_sem]))
      all_goals have hb2 := hb0.trans (hb1.mono (by simp; omega))
      · refine bodyPost_ret (v := .tuple #[.agg #[.slice none 0 0, .slice none 0 0, .int .i64 0, .bool false], .int .i64 1]) (by simp [results, Try.results26, go_sem, hcc]) rfl ?_
        exact RetDisk.zero (by rw [HST.out]; simp [*]) (by (repeat (first | (with_reducible assumption) | exact Below.refl _ _ | refine Below.setCell ?_ (by first | (simp; done) | (simp; omega) | omega) _ | refine Below.alloc ?_ (by first | (simp; done) | (simp; omega) | omega) _ | refine Below.drew ?_ | refine below_drewN ?_ _)))
      · refine bodyPost_ret (v := .tuple #[.agg #[.slice sa sn sc, .slice pa pn pc, .int .i64 left, .bool false], .int .i64 0]) (by simp [results, Try.results26, go_sem, hcc]) rfl ?_
        exact RetDisk.of (D := { D with left := left }) (by rw [HST.out]; simp [*]) rfl HSS.out (by (repeat (first | (with_reducible assumption) | exact Below.refl _ _ | refine Below.setCell ?_ (by first | (simp; done) | (simp; omega) | omega) _ | refine Below.alloc ?_ (by first | (simp; done) | (simp; omega) | omega) _ | refine Below.drew ?_ | refine below_drewN ?_ _))) fun hb => ⟨HD.out.secs.mono (keepUp_of_below hb), HD.out.pend.mono (keepUp_of_below hb), h0.1, h0.2⟩
      · refine bodyPost_ret (v := .tuple #[.agg #[.slice none 0 0, .slice none 0 0, .int .i64 0, .bool false], .int .i64 1]) (by simp [results, Try.results26, go_sem, hcc]) rfl ?_
        exact RetDisk.zero (by rw [HST.out]; simp [*]) (by (repeat (first | (with_reducible assumption) | exact Below.refl _ _ | refine Below.setCell ?_ (by first | (simp; done) | (simp; omega) | omega) _ | refine Below.alloc ?_ (by first | (simp; done) | (simp; omega) | omega) _ | refine Below.drew ?_ | refine below_drewN ?_ _)))

end Go.Proofs.Ytckcdokfhdckhaa

/- The walk of the reference's Same, of two disks that read alike: true. -/
namespace Go.Proofs.Ytckcdokfhdckhaa
open Go.RowKit Go.Kx

/-- The bytes of a list as a Go string. -/
def strB (l : Bytes) : ByteArray := ⟨l.toArray⟩

theorem conv_bytes {P : Program} {S : Nat → Prop} {w : World} {a : Option Addr} {n c : Nat} {l : Bytes} (h : Sl eByte S w a n c l) (src e dst : TypeId) (hs : P.underlying src = some (.slice e)) (he : P.underlying e = some (.int .u8))
    (hd : P.underlying dst = some .string) (W : World) (hW : ∀ b, b < w.heap.size → W.heap[b]? = w.heap[b]?) : (convert src dst (.slice a n c)).run P W = .ok (.string (strB l)) W := by
  by_cases hn : n = 0
  · subst hn
    have hl : l = [] := List.eq_nil_of_length_eq_zero h.length
    subst hl
    cases a with
    | none => rw [run_convert_bytes_nil W src e hs he 0 c dst hd]; rfl
    | some ad =>
      rw [run_convert_bytes_string W src dst e _ 0 c hs he hd, run_bytesToString W _ 0 c [] (by simp [loadCells, loadCellsFrom])]
      rfl
  · have hl := h.length
    obtain ⟨b, off, cs, rfl, hS, hb, hcl, hcell, hr⟩ := h.elem 0 (by omega)
    rw [run_convert_bytes_arg W src e hs he b off n c (l.map fun x => (x.toNat : Int)) (by simpa using hl) (fun i hi => ?_) dst hd]
    · congr 2
      simp only [strOfNums, strB, ByteArray.mk.injEq]
      congr 1
      rw [List.map_map]
      conv => rhs; rw [← List.map_id l]
      refine List.map_congr_left fun x _ => ?_
      simp
    · obtain ⟨b', off', cs', he', hS', hb', hcl', hcell', hr'⟩ := h.elem i (by omega)
      simp only [Option.some.injEq, Addr.mk.injEq, and_true] at he'
      obtain ⟨rfl, rfl⟩ := he'
      have hc := hcell' 0 (by simp [eByte])
      simp only [eByte] at hr'
      subst hr'
      simp only [eByte, Nat.mul_one, Nat.add_zero, List.getElem?_cons_zero] at hc
      rw [World.cell?_of_block (w := w) (hW _ hb'), hc]
      simp [List.getD, show i < l.length by omega]

set_option maxHeartbeats 1000000 in
theorem same_true (S S' : Nat → Prop) (w : World) (sa : Option Addr) (sn sc : Nat) (pa : Option Addr) (pn pc : Nat) (ta : Option Addr) (tn tc : Nat) (qa : Option Addr) (qn qc : Nat) (D : Disk)
    (h : DiskAt S w sa sn sc pa pn pc D) (h' : DiskAt S' w ta tn tc qa qn qc D) :
    Calls Try.prog 14 #[.agg #[.slice sa sn sc, .slice pa pn pc, .int .i64 D.left, .bool D.stopped], .agg #[.slice ta tn tc, .slice qa qn qc, .int .i64 D.left, .bool D.stopped]] w fun e w' => e = .returned (.bool true) ∧ Below w.heap.size w w' := by
  have hsn : sn ≤ 140737488355328 := by have := h.secs.bytes; simp [eSl] at this; omega
  have hpn : pn ≤ 140737488355328 := by have := h.pend.bytes; simp [eWr] at this; omega
  obtain rfl : sn = tn := h.secs.length.symm.trans h'.secs.length
  obtain rfl : pn = qn := h.pend.length.symm.trans h'.pend.length
  have hls := Lib.hid h.secs.length
  have hlp := Lib.hid h.pend.length
  have H := Lib.hid h
  have H' := Lib.hid h'
  clear h h'
  have b1 : (((sn : Int)) != sn) = false := by simp
  have b2 : (((pn : Int)) != pn) = false := by simp
  have b3 : ((D.left : Int) != D.left) = false := by simp
  have b4 : (D.stopped != D.stopped) = false := by simp
  go_enter Try.func14, Try.ntmps14
  go_wp2_with fail
  go_loopw [5] (fun i wr => ∃ k q : Nat, k ≤ sn ∧ i = .int .i64 k ∧ wr = ((w.alloc (.cells #[.slice sa sn sc, .slice pa pn pc, .int .i64 D.left, .bool D.stopped] 25)).alloc (.cells #[.slice ta sn tc, .slice qa pn qc, .int .i64 D.left, .bool D.stopped] 25)).drewN q) (fun i _ => sn - (intOf i).toNat)
  case atStart => exact ⟨0, 0, by omega, rfl, rfl⟩
  case round =>
    obtain ⟨k, q, hk, rfl, rfl⟩ := hrel
    by_cases hlt : k < sn
    · obtain ⟨b, off, oa, n1, c1, rfl, hb, hS, hc0, hx⟩ := Sl.row H.out.secs (Below.refl _ w) k (by have := hls.out; omega)
      obtain ⟨b', off', oa', n1', c1', rfl, hb', hS', hc0', hx'⟩ := Sl.row H'.out.secs (Below.refl _ w) k (by have := hls.out; omega)
      have kc := fun W hW => conv_bytes (P := Try.prog) hx 35 5 9 Try.underlying35 Try.underlying5 Try.underlying9 W hW
      have kc' := fun W hW => conv_bytes (P := Try.prog) hx' 35 5 9 Try.underlying35 Try.underlying5 Try.underlying9 W hW
      have hBk : ∀ m i, i < w.heap.size → ((((w.alloc (.cells #[.slice (some ⟨b, off, none⟩) sn sc, .slice pa pn pc, .int .i64 D.left, .bool D.stopped] 25)).alloc (.cells #[.slice (some ⟨b', off', none⟩) sn tc, .slice qa pn qc, .int .i64 D.left, .bool D.stopped] 25)).drewN q).drewN m).heap[i]? = w.heap[i]? := fun m i hi => by
        have hbb : Below w.heap.size w ((w.alloc (.cells #[.slice (some ⟨b, off, none⟩) sn sc, .slice pa pn pc, .int .i64 D.left, .bool D.stopped] 25)).alloc (.cells #[.slice (some ⟨b', off', none⟩) sn tc, .slice qa pn qc, .int .i64 D.left, .bool D.stopped] 25)) := by (repeat (first | (with_reducible assumption) | exact Below.refl _ _ | refine Below.setCell ?_ (by first | (simp; done) | (simp; omega) | omega) _ | refine Below.alloc ?_ (by first | (simp; done) | (simp; omega) | omega) _ | refine Below.drew ?_ | refine below_drewN ?_ _))
        exact hbb.block i hi
      have kd := fun m => kc _ (hBk m)
      have kd' := fun m => kc' _ (hBk m)
      clear kc kc' hBk hx hx'
      simp only [World.drewN_drewN] at kd kd'
      generalize secs_k : (D.secs[k]'(by have := hls.out; omega)) = x at kd kd'
      have hxx : ((strB x).toList != (strB x).toList) = false := by simp
      clear secs_k
      go_wp2
      go_quiet (fail)
      go_wp2
      exact ⟨⟨k + 1, _, by omega, by go_num, rfl⟩, by simp [intOf]; omega⟩
    · go_wp2
      go_loopw [6] (fun i wr => ∃ k q : Nat, k ≤ pn ∧ i = .int .i64 k ∧ wr = ((w.alloc (.cells #[.slice sa sn sc, .slice pa pn pc, .int .i64 D.left, .bool D.stopped] 25)).alloc (.cells #[.slice ta sn tc, .slice qa pn qc, .int .i64 D.left, .bool D.stopped] 25)).drewN q) (fun i _ => pn - (intOf i).toNat)
      case atStart => exact ⟨0, _, by omega, rfl, rfl⟩
      case round =>
        obtain ⟨k, q, hk, rfl, rfl⟩ := hrel
        by_cases hlt : k < pn
        · have hkl : k < D.pend.length := by have := hlp.out; omega
          obtain ⟨b, off, oa, n1, c1, rfl, hb, hS, hc0, hc1, hx, hlo, hhi⟩ := Sl.wr H.out.pend (Below.refl _ w) k hkl
          obtain ⟨b', off', oa', n1', c1', rfl, hb', hS', hc0', hc1', hx', hlo', hhi'⟩ := Sl.wr H'.out.pend (Below.refl _ w) k hkl
          have kc := fun W hW => conv_bytes (P := Try.prog) hx 35 5 9 Try.underlying35 Try.underlying5 Try.underlying9 W hW
          have kc' := fun W hW => conv_bytes (P := Try.prog) hx' 35 5 9 Try.underlying35 Try.underlying5 Try.underlying9 W hW
          have hBk : ∀ m i, i < w.heap.size → ((((w.alloc (.cells #[.slice sa sn sc, .slice (some ⟨b, off, none⟩) pn pc, .int .i64 D.left, .bool D.stopped] 25)).alloc (.cells #[.slice ta sn tc, .slice (some ⟨b', off', none⟩) pn qc, .int .i64 D.left, .bool D.stopped] 25)).drewN q).drewN m).heap[i]? = w.heap[i]? := fun m i hi => by
            have hbb : Below w.heap.size w ((w.alloc (.cells #[.slice sa sn sc, .slice (some ⟨b, off, none⟩) pn pc, .int .i64 D.left, .bool D.stopped] 25)).alloc (.cells #[.slice ta sn tc, .slice (some ⟨b', off', none⟩) pn qc, .int .i64 D.left, .bool D.stopped] 25)) := by (repeat (first | (with_reducible assumption) | exact Below.refl _ _ | refine Below.setCell ?_ (by first | (simp; done) | (simp; omega) | omega) _ | refine Below.alloc ?_ (by first | (simp; done) | (simp; omega) | omega) _ | refine Below.drew ?_ | refine below_drewN ?_ _))
            exact hbb.block i hi
          have kd := fun m => kc _ (hBk m)
          have kd' := fun m => kc' _ (hBk m)
          clear kc kc' hBk hx hx'
          simp only [World.drewN_drewN] at kd kd'
          generalize pend_k : D.pend[k] = x at kd kd' hc0 hc0' hlo hhi hlo' hhi'
          have hxx : ((strB x.data).toList != (strB x.data).toList) = false := by simp
          have hxy : ((x.at_ : Int) != x.at_) = false := by simp
          clear pend_k
          go_wp2
          go_quiet (fail)
          go_wp2
          exact ⟨⟨k + 1, _, by omega, by go_num, rfl⟩, by simp [intOf]; omega⟩
        · go_wp2
          go_ret
          exact ⟨rfl, by (repeat (first | (with_reducible assumption) | exact Below.refl _ _ | refine Below.setCell ?_ (by first | (simp; done) | (simp; omega) | omega) _ | refine Below.alloc ?_ (by first | (simp; done) | (simp; omega) | omega) _ | refine Below.drew ?_ | refine below_drewN ?_ _))⟩

end Go.Proofs.Ytckcdokfhdckhaa
