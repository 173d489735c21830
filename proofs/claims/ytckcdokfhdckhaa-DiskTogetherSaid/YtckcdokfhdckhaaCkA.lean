/- The walks of slices.IndexFunc and slices.ContainsFunc over a disk's slices, and of the closures of disk.Check. -/
import Derived.Test.YtckcdokfhdckhaaRows
import Derived.Test.YtckcdokfhdckhaaKx
import Derived.WalkKit
import Derived.WalkLawsBesides
import Derived.WalkSpells
import Derived.Outline
import Derived.Lib.Hide
import Derived.Deep.QuietTactic
import Derived.BigQuiet
namespace Go.Proofs.Ytckcdokfhdckhaa
open Go.RowKit Go.Kx

theorem entersOf {P : Program} {f : FuncId} {fn : Func} (hf : P.funcs[f]? = some fn) (hm : (fn.name == "runtime.NumGoroutine") = false) (hb : fn.body.isSome = true) (args : Array Value) (w : World) :
    (callFunc f args).run P w = .ok (.enter f args) w := by
  cases h : fn.body with
  | none => simp [h] at hb
  | some b =>
    simp only [beq_eq_false_iff_ne, ne_eq] at hm
    simp [callFunc, hf, h, hm]

theorem any_of {α : Type} (l : List α) (p : α → Bool) (k : Nat) (h : k < l.length) (hp : p l[k] = true) : l.any p = true := List.any_eq_true.2 ⟨_, List.getElem_mem h, hp⟩

set_option maxHeartbeats 400000 in
theorem index_write (S : Nat → Prop) (w : World) (a : Option Addr) (n c : Nat) (l : List Wr) (g : FuncId) (fi ca : Array Value) (p : Wr → Bool)
    (hs : Sl eWr S w a n c l) (hcf : ∀ args w, (callFunc g args).run Try.prog w = .ok (.enter g args) w)
    (hp : ∀ x c0 c1 w1, Below w.heap.size w w1 → eWr.rel S w [c0, c1] x → Calls Try.prog g (fi.push (.agg #[c0, c1]) ++ ca) w1 fun e w2 => e = .returned (.bool (p x)) ∧ Below w1.heap.size w1 w2) :
    Calls Try.prog 43 #[.slice a n c, .func (.func g) fi ca] w fun e w' => ∃ r : Int, e = .returned (.int .i64 r) ∧ decide (0 ≤ r) = l.any p ∧ Below w.heap.size w w' := by
  have hsn : n ≤ 140737488355328 := by have := hs.bytes; simp [eWr] at this; omega
  go_enter Try.func43, Try.ntmps43
  go_wp2
  go_loopw [5, 8] (fun _ i wr => ∃ k : Nat, k ≤ n ∧ i = .int .i64 k ∧ (l.take k).any p = false ∧ Below w.heap.size w wr) (fun _ i _ => n - (intOf i).toNat)
  case atStart => exact ⟨0, by omega, rfl, by simp, Below.refl _ _⟩
  case round =>
    obtain ⟨k, hk, rfl, hany, hbel⟩ := hrel
    have HA := Lib.hid hany
    clear hany
    by_cases hlt : k < n
    · have hl := hs.length
      obtain ⟨b, off, cs, rfl, hS, hb, hcl, hcell, oa, n1, c1, rfl, hr, hx⟩ := hs.elem k (by omega)
      have hc0 := hcell 0 (by simp [eWr])
      have hc1 := hcell 1 (by simp [eWr])
      simp only [eWr, Nat.add_zero, List.getElem?_cons_zero, List.getElem?_cons_succ] at hc0 hc1
      rw [← hbel.cell (by simpa using hb)] at hc0 hc1
      clear hcell hcl
      have hE : eWr.rel S w [.int .i64 l[k].at_, .slice oa n1 c1] l[k] := ⟨oa, n1, c1, rfl, hr, hx⟩
      have hpk := Lib.hid (hp _ _ _ wr hbel hE)
      clear hp hE
      cases hpx : p l[k] with
      | true =>
        rw [hpx] at hpk
        go_wp2_with ((with_reducible refine hpk.out.mono ?_); rintro e w2 ⟨rfl, hb2⟩)
        go_ret
        exact ⟨k, rfl, by rw [any_of l p k (by omega) hpx]; simp, hbel.trans (hb2.mono hbel.size)⟩
      | false =>
        rw [hpx] at hpk
        go_wp2_with ((with_reducible refine hpk.out.mono ?_); rintro e w2 ⟨rfl, hb2⟩)
        exact ⟨⟨k + 1, by omega, by go_num, by rw [any_take_snoc _ _ _ (by omega), HA.out, hpx]; rfl, hbel.trans (hb2.mono hbel.size)⟩, by simp [intOf]; omega⟩
    · go_wp2
      go_ret
      have hl := hs.length
      exact ⟨-1, rfl, by rw [← List.take_of_length_le (l := l) (i := k) (by omega), HA.out]; rfl, hbel⟩

set_option maxHeartbeats 400000 in
theorem index_bytes (S : Nat → Prop) (w : World) (a : Option Addr) (n c : Nat) (l : List Bytes) (g : FuncId) (fi ca : Array Value) (p : Bytes → Bool)
    (hs : Sl (eSl eByte) S w a n c l) (hcf : ∀ args w, (callFunc g args).run Try.prog w = .ok (.enter g args) w)
    (hp : ∀ x c0 w1, Below w.heap.size w w1 → (eSl eByte).rel S w [c0] x → Calls Try.prog g (fi.push c0 ++ ca) w1 fun e w2 => e = .returned (.bool (p x)) ∧ Below w1.heap.size w1 w2) :
    Calls Try.prog 44 #[.slice a n c, .func (.func g) fi ca] w fun e w' => ∃ r : Int, e = .returned (.int .i64 r) ∧ decide (0 ≤ r) = l.any p ∧ Below w.heap.size w w' := by
  have hsn : n ≤ 140737488355328 := by have := hs.bytes; simp [eSl] at this; omega
  go_enter Try.func44, Try.ntmps44
  go_wp2
  go_loopw [5, 8] (fun _ i wr => ∃ k : Nat, k ≤ n ∧ i = .int .i64 k ∧ (l.take k).any p = false ∧ Below w.heap.size w wr) (fun _ i _ => n - (intOf i).toNat)
  case atStart => exact ⟨0, by omega, rfl, by simp, Below.refl _ _⟩
  case round =>
    obtain ⟨k, hk, rfl, hany, hbel⟩ := hrel
    have HA := Lib.hid hany
    clear hany
    by_cases hlt : k < n
    · have hl := hs.length
      obtain ⟨b, off, cs, rfl, hS, hb, hcl, hcell, oa, n1, c1, rfl, hx⟩ := hs.elem k (by omega)
      have hc0 := hcell 0 (by simp [eSl])
      simp only [eSl, Nat.add_zero, Nat.mul_one, List.getElem?_cons_zero] at hc0
      rw [← hbel.cell (by simpa using hb)] at hc0
      clear hcell hcl
      have hE : (eSl eByte).rel S w [.slice oa n1 c1] l[k] := ⟨oa, n1, c1, rfl, hx⟩
      have hpk := Lib.hid (hp _ _ wr hbel hE)
      clear hp hE
      cases hpx : p l[k] with
      | true =>
        rw [hpx] at hpk
        go_wp2_with ((with_reducible refine hpk.out.mono ?_); rintro e w2 ⟨rfl, hb2⟩)
        go_ret
        exact ⟨k, rfl, by rw [any_of l p k (by omega) hpx]; simp, hbel.trans (hb2.mono hbel.size)⟩
      | false =>
        rw [hpx] at hpk
        go_wp2_with ((with_reducible refine hpk.out.mono ?_); rintro e w2 ⟨rfl, hb2⟩)
        exact ⟨⟨k + 1, by omega, by go_num, by rw [any_take_snoc _ _ _ (by omega), HA.out, hpx]; rfl, hbel.trans (hb2.mono hbel.size)⟩, by simp [intOf]; omega⟩
    · go_wp2
      go_ret
      have hl := hs.length
      exact ⟨-1, rfl, by rw [← List.take_of_length_le (l := l) (i := k) (by omega), HA.out]; rfl, hbel⟩

theorem contains_write (S : Nat → Prop) (w : World) (a : Option Addr) (n c : Nat) (l : List Wr) (g : FuncId) (fi ca : Array Value) (p : Wr → Bool)
    (hs : Sl eWr S w a n c l) (hcf : ∀ args w, (callFunc g args).run Try.prog w = .ok (.enter g args) w)
    (hp : ∀ x c0 c1 w1, Below w.heap.size w w1 → eWr.rel S w [c0, c1] x → Calls Try.prog g (fi.push (.agg #[c0, c1]) ++ ca) w1 fun e w2 => e = .returned (.bool (p x)) ∧ Below w1.heap.size w1 w2) :
    Calls Try.prog 32 #[.slice a n c, .func (.func g) fi ca] w fun e w' => e = .returned (.bool (l.any p)) ∧ Below w.heap.size w w' := by
  have H := Lib.hid (index_write S w a n c l g fi ca p hs hcf hp)
  clear hp hs
  go_enter Try.func32, Try.ntmps32
  go_wp2_with ((with_reducible refine H.out.mono ?_); rintro e w2 ⟨r, rfl, hr, hb2⟩; have HR := Lib.hid hr; clear hr)
  go_ret
  exact ⟨by rw [HR.out]; rfl, hb2⟩

theorem contains_bytes (S : Nat → Prop) (w : World) (a : Option Addr) (n c : Nat) (l : List Bytes) (g : FuncId) (fi ca : Array Value) (p : Bytes → Bool)
    (hs : Sl (eSl eByte) S w a n c l) (hcf : ∀ args w, (callFunc g args).run Try.prog w = .ok (.enter g args) w)
    (hp : ∀ x c0 w1, Below w.heap.size w w1 → (eSl eByte).rel S w [c0] x → Calls Try.prog g (fi.push c0 ++ ca) w1 fun e w2 => e = .returned (.bool (p x)) ∧ Below w1.heap.size w1 w2) :
    Calls Try.prog 33 #[.slice a n c, .func (.func g) fi ca] w fun e w' => e = .returned (.bool (l.any p)) ∧ Below w.heap.size w w' := by
  have H := Lib.hid (index_bytes S w a n c l g fi ca p hs hcf hp)
  clear hp hs
  go_enter Try.func33, Try.ntmps33
  go_wp2_with ((with_reducible refine H.out.mono ?_); rintro e w2 ⟨r, rfl, hr, hb2⟩; have HR := Lib.hid hr; clear hr)
  go_ret
  exact ⟨by rw [HR.out]; rfl, hb2⟩

theorem isSector_any (a : Option Addr) (n c : Nat) (w : World) :
    Calls Try.prog 31 #[.slice a n c] w fun e w' => e = .returned (.bool ((n : Int) == 128)) ∧ w = w' := by
  go_enter Try.func31, Try.ntmps31
  go_wp2
  go_ret
  exact ⟨rfl, rfl⟩

theorem check2_any (a : Option Addr) (n c : Nat) (w : World) :
    Calls Try.prog 34 #[.slice a n c] w fun e w' => e = .returned (.bool !((n : Int) == 128)) ∧ w = w' := by
  go_enter Try.func34, Try.ntmps34
  go_wp2_with (go_at_call 31; refine (isSector_any _ _ _ _).mono ?_; rintro e w' ⟨rfl, rfl⟩)
  go_ret
  exact ⟨rfl, rfl⟩

theorem ret_int {k : IntKind} {a b : Int} (h : a = b) : Ending.returned (.int k a) = .returned (.int k b) := by rw [h]
theorem ret_bool {a b : Bool} (h : a = b) : Ending.returned (.bool a) = .returned (.bool b) := by rw [h]

def badW (n : Nat) (x : Wr) : Bool := decide (x.at_ < 0) || decide ((n : Int) ≤ x.at_) || !((x.data.length : Int) == 128)
def badB (b : Bytes) : Bool := !((b.length : Int) == 128)
def Disk.ok (d : Disk) : Bool :=
  !(decide ((d.secs.length : Int) < 1) || decide ((4096 : Int) < d.secs.length) || decide ((4096 : Int) < d.pend.length) || decide (d.left < -1) || decide (65536 < d.left) || d.pend.any (badW d.secs.length)) && !d.secs.any badB
def checkF (d : Disk) : Int := if Disk.ok d then 0 else 40

theorem check1_any (at_ : Int) (n : Nat) (a : Option Addr) (len c : Nat) (b : Nat) (w : World) (hc : w.cell? ⟨b, 0, none⟩ = some (.int .i64 n)) (hp : b < w.heap.size) :
    Calls Try.prog 30 #[.agg #[.int .i64 at_, .slice a len c], .pointer (some ⟨b, 0, none⟩)] w fun e w' =>
      e = .returned (.bool (decide (at_ < 0) || decide ((n : Int) ≤ at_) || !((len : Int) == 128))) ∧ Below w.heap.size w w' := by
  have hc2 : (w.alloc (.cells #[.int .i64 at_, .slice a len c] 54)).cell? ⟨b, 0, none⟩ = some (.int .i64 n) := by
    rw [World.cell?_alloc_past _ _ _ hp]; exact hc
  go_enter Try.func30, Try.ntmps30
  go_wp2_with (go_at_call 31; refine (isSector_any _ _ _ _).mono ?_; rintro e w' ⟨rfl, rfl⟩)
  all_goals
    go_ret
    refine ⟨?_, (Below.refl _ _).alloc (Nat.le_refl _) _⟩
    first
    | rfl
    | (have h1 : at_ < 0 := by assumption
       simp [h1])
    | (have h1 : 0 ≤ at_ := by assumption
       have h2 : (n : Int) ≤ at_ := by assumption
       simp [h2])
    | (have h1 : 0 ≤ at_ := by assumption
       have h2 : at_ < (n : Int) := by assumption
       simp [show ¬ at_ < 0 by omega, show ¬ (n : Int) ≤ at_ by omega])

end Go.Proofs.Ytckcdokfhdckhaa
