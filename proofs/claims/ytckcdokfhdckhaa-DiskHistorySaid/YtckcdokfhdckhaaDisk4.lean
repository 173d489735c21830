/-
  DERIVED: THE SHELF's CONTRACTS AT THIS DUMP, IN PLAIN WORDS (tools/lay-plain.mjs out of 'TryShelf.lean', which tools/lay-shelf.mjs wrote): THE SAME DECLARATIONS UNDER THE SAME NAMES: 'import', 'namespace', 'open', 'def', 'theorem' AND NOTHING ELSE: no command of the shelf's: FOR A HAND-IN. Each laying: the table of numbers ('.._ren') and one theorem, a field a fact of the dump's own or the kernel's comparison; each contract: ONE APPLICATION.
-/
import Derived.Test.YtckcdokfhdckhaaProg
import Derived.Test.YtckcdokfhdckhaaRows
import Derived.Test.YtckcdokfhdckhaaDisk3
import Derived.Shelf.Bits.Mul64
import Derived.WalkKit
import Derived.WalkLawsBesides
import Derived.WalkSpells
import Derived.Outline
import Derived.Lib.Hide
import Derived.Laws.CopyOwn
import Derived.Deep.OwnRows
import Derived.RangeFuncBox
import Derived.StillTailTactics
import Derived.Deep.RegionLaw
namespace Go.Proofs
open Go.Shelf
def Try.lays264_ren : Go.Shelf.Ren := ⟨fun | 264 => 48 | n => n, fun | 53 => 76 | 46 => 66 | n => n, fun | n => n⟩
theorem Try.lays264 : Go.Proofs.Lays.n264 Try.prog Try.lays264_ren := {
  mixed := by kernel_rfl
  f264 := Try.func48.trans (congrArg some (by kernel_rfl))
  t46 := Try.underlying66
  a46 := Try.isAgg66
  z46 := Try.sizeOf66
  v46 := Try.zeroValue66
  t53 := Try.underlying76
  a53 := Try.isAgg76
  z53 := Try.sizeOf76
  v53 := Try.zeroValue76 }
open Go.RowKit Go.Lib in
theorem Try.bits_Mul64 (x y : Nat) (hx : x < 18446744073709551616) (hy : y < 18446744073709551616) (w : World) :
    Calls Try.prog 48 #[.int .u64 x, .int .u64 y] w fun e w' => e = .returned (.tuple #[.int .u64 ((x * y / 18446744073709551616 : Nat) : Int), .int .u64 ((x * y % 18446744073709551616 : Nat) : Int)]) ∧ w' = w := Any.bits_Mul64 Try.lays264 x y hx hy w
def Try.lays212_ren : Go.Shelf.Ren := ⟨fun | 212 => 42 | 263 => 47 | 264 => 48 | n => n, fun | 46 => 66 | 51 => 73 | 146 => 74 | 53 => 76 | 148 => 77 | n => n, fun | n => n⟩
theorem Try.lays212 : Go.Proofs.Lays.n212 Try.prog Try.lays212_ren := {
  mixed := by kernel_rfl
  f212 := Try.func42.trans (congrArg some (by kernel_rfl))
  f263 := Try.func47.trans (congrArg some (by kernel_rfl))
  f264 := Try.func48.trans (congrArg some (by kernel_rfl))
  t46 := Try.underlying66
  a46 := Try.isAgg66
  z46 := Try.sizeOf66
  v46 := Try.zeroValue66
  t51 := Try.underlying73
  a51 := Try.isAgg73
  z51 := Try.sizeOf73
  v51 := Try.zeroValue73
  t53 := Try.underlying76
  a53 := Try.isAgg76
  z53 := Try.sizeOf76
  v53 := Try.zeroValue76
  t146 := Try.underlying74
  a146 := Try.isAgg74
  z146 := Try.sizeOf74
  v146 := Try.zeroValue74
  t148 := Try.underlying77
  a148 := Try.isAgg77
  z148 := Try.sizeOf77
  v148 := Try.zeroValue77 }
open Go.RowKit Go.Lib in
/-- math/bits.Mul: "Mul returns the full-width product of x and y": on a machine of 64 bits: Mul64's. (LAID: no walk: one application.) -/
theorem Try.bits_Mul (x y : Nat) (hx : x < 18446744073709551616) (hy : y < 18446744073709551616) (w : World) :
    Calls Try.prog 42 #[.int .u64 x, .int .u64 y] w fun e w' => e = .returned (.tuple #[.int .u64 ((x * y / 18446744073709551616 : Nat) : Int), .int .u64 ((x * y % 18446744073709551616 : Nat) : Int)]) ∧ w' = w := Any.bits_Mul Try.lays212 x y hx hy w
end Go.Proofs

/- The walks of bits.Mul, slices.Repeat at one sector, and disk.New. -/
namespace Go.Proofs.Ytckcdokfhdckhaa
open Go.RowKit Go.Kx

theorem mul_one (n : Nat) (hn : n ≤ 4096) (w : World) :
    Calls Try.prog 42 #[.int .u64 1, .int .u64 n] w fun e w' => e = .returned (.tuple #[.int .u64 0, .int .u64 n]) ∧ w = w' :=
  (Try.bits_Mul 1 n (by decide) (by omega) w).mono fun e w' ⟨he, hw⟩ => ⟨by
    rw [he, Nat.one_mul, Nat.div_eq_of_lt (by omega), Nat.mod_eq_of_lt (by omega)]; rfl, hw.symm⟩

theorem rep_splice (x y : Value) (N k : Nat) (_hk : k ≤ N) : splice (List.replicate k x ++ List.replicate (N - k) y) k (List.replicate (Nat.min k (N - k)) x) = List.replicate (k + Nat.min k (N - k)) x ++ List.replicate (N - (k + Nat.min k (N - k))) y := by
  unfold splice
  rw [List.take_append_of_le_length (by simp), List.take_of_length_le (by simp), List.length_replicate, List.drop_append, List.drop_of_length_le (by simp), List.length_replicate, List.nil_append, List.drop_replicate, ← List.append_assoc, List.replicate_append_replicate]
  congr 2
  omega
theorem rep_splice0 (x y : Value) (N : Nat) (_hN : 1 ≤ N) : splice (List.replicate N y) 0 [x] = List.replicate 1 x ++ List.replicate (N - 1) y := by
  unfold splice
  simp

def RetRep (w : World) (v0 : Value) (N : Nat) (e : Ending) (w' : World) : Prop :=
  ∃ g, e = .returned (.slice (some ⟨g, 0, none⟩) N N) ∧ w.heap.size ≤ g ∧ w'.heap[g]? = some (.cells (List.replicate N v0).toArray 35 (0, 0)) ∧ Below w.heap.size w w'

set_option maxRecDepth 20000 in
set_option maxHeartbeats 400000 in
theorem repeat_any (w : World) (g0 : Nat) (a0 : Option Addr) (n0 c0 : Nat) (N : Nat) (hN : 1 ≤ N ∧ N ≤ 4096) (h0 : w.heap[g0]? = some (.cells #[.slice a0 n0 c0] 35 (0, 0))) :
    Calls Try.prog 29 #[.slice (some ⟨g0, 0, none⟩) 1 1, .int .i64 N] w (RetRep w (.slice a0 n0 c0) N) := by
  obtain ⟨hN1, hN2⟩ := hN
  have hmk : ∀ w, (Instr.makeSlice 22 (.int .i64 N) (.int .i64 N)).run Try.prog w = .ok (.slice (some ⟨w.heap.size, 0, none⟩) N N) (w.alloc (.cells (madeCells #[.slice none 0 0] N) 35)) := fun w => run_make_row' (P := Try.prog) 22 35 (.slice none 0 0) 24 Try.underlying22 cloneB_info rfl .i64 .i64 N (by omega) (by omega) w
  have hinfo : (Try.prog.info? 35).map (·.size) = some 1 := by kernel_rfl
  have HH := Lib.hid h0
  have hd1 : decide ((N : Int) < 0) = false := by simp
  have hd2 : decide ((9223372036854775807 : Int) < (N : Int)) = false := by simp; omega
  clear h0
  go_enter Try.func29, Try.ntmps29
  go_wp2_with (first | (go_at_call 42; refine (mul_one _ hN2 _).mono ?_; rintro e w1 ⟨rfl, rfl⟩) | ((with_reducible refine atSlot 33 ?_); refine wpList_copy_splice rfl (.tmp 31) (.tmp 32) 22 22 rfl 35 Try.underlying22 hinfo (some ⟨w.heap.size, 0, none⟩) (some ⟨g0, 0, none⟩) N N 1 1 rfl rfl w.heap.size 0 (List.replicate N (Value.slice none 0 0)) 35 (by rw [← madeCells_rep]; exact heap_alloc_at _ _ _ rfl) [.slice a0 n0 c0] (by simp [Nat.min_def]; omega) (fun _ => ⟨rfl, _, rfl, fun j v hj => cell_after _ (by rw [addr_add_plain, cell_of_row _ _ _ _ _ (0, 0) HH.out]; simpa using hj)⟩) (by simp; omega) (by simp [Value.oneCell']) w.heap.size w ((Below.refl _ _).alloc (Nat.le_refl _) _) (Nat.le_refl _) ?_; intro w2 hd2' hb2))
  go_loopw [8] (fun v wr => ∃ k : Nat, 1 ≤ k ∧ k ≤ N ∧ v = .int .i64 k ∧ Hid (wr.heap[w.heap.size]? = some (.cells (List.replicate k (Value.slice a0 n0 c0) ++ List.replicate (N - k) (Value.slice none 0 0)).toArray 35 (0, 0))) ∧ Below w.heap.size w wr) (fun v _ => N - (intOf v).toNat)
  case atStart => exact ⟨1, Nat.le_refl _, hN1, rfl, by rw [rep_splice0 _ _ _ hN1] at hd2'; exact hd2', hb2⟩
  case round =>
    obtain ⟨k, hk1, hk2, rfl, HK, hbr⟩ := hrel
    clear hd2' hb2
    by_cases hlt : k < N
    · have hkl : (k : Int) < N := by omega
      go_wp2
      have hm1 : 0 < Nat.min k (N - k) := by simp only [Nat.min_def]; split <;> omega
      have hm2 : k + Nat.min k (N - k) ≤ N := by simp only [Nat.min_def]; split <;> omega
      obtain ⟨m, hm⟩ : ∃ m, m = Nat.min k (N - k) := ⟨_, rfl⟩
      rw [← hm] at hm1 hm2
      have HM := Lib.hid hm
      clear hm
      have hne : ¬ (N = k) := by omega
      have hkl2 : (k : Int) ≤ N := by omega
      have hcs1 : (List.replicate m (Value.slice a0 n0 c0)).length = Nat.min k (N - k) := by rw [List.length_replicate, HM.out]
      have HCS1 := Lib.hid hcs1
      have hcs2 : k + (List.replicate m (Value.slice a0 n0 c0)).length ≤ (List.replicate k (Value.slice a0 n0 c0) ++ List.replicate (N - k) (Value.slice none 0 0)).length := by simp; omega
      have HCS2 := Lib.hid hcs2
      have hcs3 : ∀ v ∈ List.replicate m (Value.slice a0 n0 c0), v.oneCell' = true := fun v hv => by rw [(List.mem_replicate.1 hv).2]; rfl
      have HCS3 := Lib.hid hcs3
      have hsrc : ∀ (w' : World), w'.heap[w.heap.size]? = some (.cells (List.replicate k (Value.slice a0 n0 c0) ++ List.replicate (N - k) (Value.slice none 0 0)).toArray 35 (0, 0)) → 0 < (List.replicate m (Value.slice a0 n0 c0)).length → (some ⟨w.heap.size, k, none⟩ : Option Addr) = some ⟨w.heap.size, k, none⟩ ∧ ∃ ad, (some ⟨w.heap.size, 0, none⟩ : Option Addr) = some ad ∧ ∀ j v, (List.replicate m (Value.slice a0 n0 c0))[j]? = some v → w'.cell? (ad.add j) = some v := fun w' hw' _ => by
        refine ⟨rfl, _, rfl, fun j v hj => ?_⟩
        have hjm : j < m := by have := (List.getElem?_eq_some_iff.1 hj).1; simpa using this
        have hjk : j < k := by have e := HM.out; simp only [Nat.min_def] at e; split at e <;> omega
        rw [addr_add_plain, Nat.zero_add, cell_of_row _ _ _ _ _ (0, 0) hw']
        rw [List.getElem?_replicate, if_pos hjm] at hj
        rw [List.getElem?_toArray, List.getElem?_append_left (by simpa using hjk), List.getElem?_replicate, if_pos hjk]
        exact hj
      have HSRC := Lib.hid hsrc
      clear hcs1 hcs2 hcs3 hsrc
      have HD4 : wr.drew.heap[w.heap.size]? = some (.cells (List.replicate k (Value.slice a0 n0 c0) ++ List.replicate (N - k) (Value.slice none 0 0)).toArray 35 (0, 0)) := HK.out
      go_region_law (refine step_copy_splice rfl (.tmp 41) (.tmp 44) 22 22 rfl 35 Try.underlying22 hinfo (some ⟨w.heap.size, k, none⟩) (some ⟨w.heap.size, 0, none⟩) (N - k) (N - k) k N (by simp [Act.eval, Act.put]) (by simp [Act.eval, Act.put]) w.heap.size k (List.replicate k (Value.slice a0 n0 c0) ++ List.replicate (N - k) (Value.slice none 0 0)) 35 HD4 (List.replicate m (Value.slice a0 n0 c0)) HCS1.out (HSRC.out wr.drew HD4) HCS2.out HCS3.out w.heap.size w hbr.drew (Nat.le_refl _) ?_; intro w4 hd4 hb4; rw [List.length_replicate])
      have HD5 := Lib.hid hd4
      clear hd4
      have hwr : IntKind.i64.wrap ((k : Int) + m) = (k : Int) + m := IntWalk.i64_in _ (by omega)
      simp only [hwr]
      clear hwr
      go_wp2
      have key : Hid (w4.heap[w.heap.size]? = some (.cells (List.replicate (k + m) (Value.slice a0 n0 c0) ++ List.replicate (N - (k + m)) (Value.slice none 0 0)).toArray 35 (0, 0))) := by
        have := HD5.out.out
        rw [HM.out, rep_splice _ _ _ _ (by omega), ← HM.out] at this
        exact this
      exact ⟨⟨k + m, by omega, hm2, by omega, key⟩, by simp [intOf]; omega⟩
    · go_wp2
      go_ret
      obtain rfl : k = N := by omega
      refine ⟨w.heap.size, rfl, Nat.le_refl _, ?_, hbr⟩
      have := HK.out
      rw [Nat.sub_self, List.replicate_zero, List.append_nil] at this
      exact this

def newF (n : Int) : Disk × Int := if decide (n < 1) || decide (4096 < n) then (zeroDisk, 1) else (⟨List.replicate n.toNat (List.replicate 128 0), [], -1, false⟩, 0)

theorem zeros_sl {S : Nat → Prop} {w : World} {g : Nat} (h : w.heap[g]? = some (.cells zeros 5 (0, 0))) (hS : S g) : Sl eByte S w (some ⟨g, 0, none⟩) 128 128 (List.replicate 128 0) := by
  rw [zeros_eq] at h
  have := Sl.of_heap (S := S) h hS (by simp)
  simpa using this

theorem rep_sl {S : Nat → Prop} {w : World} {g N : Nat} {a : Option Addr} {n c : Nat} {t : TypeId} {b : Bytes} (hN : N ≤ 4096) (h : w.heap[g]? = some (.cells (List.replicate N (Value.slice a n c)).toArray t (0, 0))) (hS : S g) (hb : Sl eByte S w a n c b) :
    Sl (eSl eByte) S w (some ⟨g, 0, none⟩) N N (List.replicate N b) := by
  refine ⟨by simp, Nat.le_refl _, by simp only [maxLen]; omega, by simp [eSl]; omega, (by intro h; cases h), fun i hi => ⟨g, 0, [.slice a n c], rfl, hS, (Array.getElem?_eq_some_iff.1 h).1, rfl, fun j hj => ?_, a, n, c, rfl, by rw [List.getElem_replicate]; exact hb⟩⟩
  simp only [eSl] at hj
  obtain rfl : j = 0 := by omega
  rw [cell_of_row w g _ _ t (0, 0) h]
  have hi' : i < N := by simpa using hi
  simp [eSl, hi']

set_option maxHeartbeats 1000000 in
theorem new_any (S : Nat → Prop) (w : World) (n : Int) : Calls Try.prog 12 #[.int .i64 n] w (RetDisk S w (newF n)) := by
  by_cases hin : n < 1 ∨ 4096 < n
  · have e : newF n = (zeroDisk, 1) := by unfold newF; rw [if_pos (by simpa using hin)]
    have HE := Lib.hid e
    clear e
    by_cases h1 : n < 1
    · clear hin
      go_enter Try.func12, Try.ntmps12
      go_wp2
      refine bodyPost_ret (v := .tuple #[.agg #[.slice none 0 0, .slice none 0 0, .int .i64 0, .bool false], .int .i64 1]) (by simp [results, Try.results12, go_sem]) rfl ?_
      exact RetDisk.zero HE.out (by (repeat (first | (with_reducible assumption) | exact Below.refl _ _ | refine Below.setCell ?_ (by first | (simp; done) | (simp; omega) | omega) _ | refine Below.alloc ?_ (by first | (simp; done) | (simp; omega) | omega) _ | refine Below.drew ?_ | refine below_drewN ?_ _)))
    · have h2 : 4096 < n := by omega
      clear hin
      go_enter Try.func12, Try.ntmps12
      go_wp2
      refine bodyPost_ret (v := .tuple #[.agg #[.slice none 0 0, .slice none 0 0, .int .i64 0, .bool false], .int .i64 1]) (by simp [results, Try.results12, go_sem]) rfl ?_
      exact RetDisk.zero HE.out (by (repeat (first | (with_reducible assumption) | exact Below.refl _ _ | refine Below.setCell ?_ (by first | (simp; done) | (simp; omega) | omega) _ | refine Below.alloc ?_ (by first | (simp; done) | (simp; omega) | omega) _ | refine Below.drew ?_ | refine below_drewN ?_ _)))
  · have h1 : 1 ≤ n := by omega
    obtain ⟨N, rfl⟩ := Int.eq_ofNat_of_zero_le (show 0 ≤ n by omega)
    have e : newF N = (⟨List.replicate N (List.replicate 128 0), [], -1, false⟩, 0) := by unfold newF; rw [if_neg (by simp; omega)]; rfl
    have HE := Lib.hid e
    have hN2 : N ≤ 4096 := by omega
    have hmk : ∀ w, (Instr.makeSlice 35 (.int .i64 128) (.int .i64 128)).run Try.prog w = .ok (.slice (some ⟨w.heap.size, 0, none⟩) 128 128) (w.alloc (.cells zeros 5)) := fun w => run_make_row' (P := Try.prog) 35 5 (.int .u8 0) 1 Try.underlying35 cloneY_info rfl .i64 .i64 128 (by decide) (by decide) w
    clear e hin
    go_enter Try.func12, Try.ntmps12
    go_wp2_with (go_at_call 29; refine (repeat_any _ (w.heap.size + 1 + 1) (some ⟨w.heap.size + 1, 0, none⟩) 128 128 N ⟨by omega, hN2⟩ (heap_alloc_at _ _ _ (by simp))).mono ?_; rintro e w1 ⟨g, rfl, hg, hrow, hb1⟩; have hz : w.heap.size < w1.heap.size := (by have := hb1.size; simp at this; omega); obtain ⟨r0, r1, r2, r3, rf⟩ := box4 ((hb1.block w.heap.size (by first | (simp; done) | (simp; omega) | omega)).trans ((Below.heap_alloc _ _ _ (by simp; omega)).trans ((Below.heap_alloc _ _ _ (by simp)).trans (heap_alloc_at _ _ _ rfl)))))
    refine bodyPost_ret (v := .tuple #[.agg #[.slice (some ⟨g, 0, none⟩) N N, .slice none 0 0, .int .i64 (-1), .bool false], .int .i64 0]) (by simp [results, Try.results12, go_sem, r0, r1, r2, r3]) rfl ?_
    have hb0 : Below w.heap.size w (((w.alloc (.cells #[.slice none 0 0, .slice none 0 0, .int .i64 0, .bool false] 25)).alloc (.cells zeros 5)).alloc (.cells #[.slice (some ⟨w.heap.size + 1, 0, none⟩) 128 128] 35)) := by (repeat (first | (with_reducible assumption) | exact Below.refl _ _ | refine Below.setCell ?_ (by first | (simp; done) | (simp; omega) | omega) _ | refine Below.alloc ?_ (by first | (simp; done) | (simp; omega) | omega) _ | refine Below.drew ?_ | refine below_drewN ?_ _))
    have hb2 := hb0.trans (hb1.mono (by simp; omega))
    have hzr : w1.heap[w.heap.size + 1]? = some (.cells zeros 5 (0, 0)) := (hb1.block (w.heap.size + 1) (by first | (simp; done) | (simp; omega) | omega)).trans ((Below.heap_alloc _ _ _ (by simp)).trans (heap_alloc_at _ _ _ (by simp)))
    simp at hg
    refine RetDisk.of (D := ⟨List.replicate N (List.replicate 128 0), [], -1, false⟩) HE.out rfl rfl (by (repeat (first | (with_reducible assumption) | exact Below.refl _ _ | refine Below.setCell ?_ (by first | (simp; done) | (simp; omega) | omega) _ | refine Below.alloc ?_ (by first | (simp; done) | (simp; omega) | omega) _ | refine Below.drew ?_ | refine below_drewN ?_ _))) fun hb => ⟨?_, Sl.zero _ _ _, by show (-9223372036854775808 : Int) ≤ -1; decide, by show (-1 : Int) ≤ 9223372036854775807; decide⟩
    refine (rep_sl (S := fun b => w.heap.size + 1 ≤ b) hN2 hrow (by omega) (zeros_sl hzr (Nat.le_refl _))).mono fun k hk hlt => ⟨.inr (by omega), ?_⟩
    have k1 : k ≠ w.heap.size := by omega
    rw [set_other _ _ _ _ _ k1, set_other _ _ _ _ _ k1, set_other _ _ _ _ _ k1, set_other _ _ _ _ _ k1]

end Go.Proofs.Ytckcdokfhdckhaa
