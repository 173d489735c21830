/- The walks of slices.Clone at the three slices of a disk. -/
import Derived.Test.YtckcdokfhdckhaaRows
import Derived.Test.YtckcdokfhdckhaaKy
import Derived.Test.YtckcdokfhdckhaaCkE
import Derived.WalkKit
import Derived.WalkLawsBesides
import Derived.WalkSpells
import Derived.Outline
import Derived.Lib.Hide
import Derived.Lib.LazyBuf
namespace Go.Proofs.Ytckcdokfhdckhaa
open Go.RowKit Go.Kx

/-- What a function hands back that returns a slice of its own. -/
def OwnRet {α : Type} (E : Enc α) (S : Nat → Prop) (te : TypeId) (w : World) (l : List α) (e : Ending) (w' : World) : Prop :=
  ∃ v xs, e = .returned v ∧ w'.ownsRow w.heap.size te E.size v l.length xs ∧ Elems E S w' xs l ∧ Below w.heap.size w w'

theorem cell_after {w : World} {a : Addr} {v : Value} (o : Obj) (h : w.cell? a = some v) : (w.alloc o).cell? a = some v :=
  (((Below.refl w.heap.size w).alloc (Nat.le_refl _) o).cell (World.block_lt_of_cell? w a h)).trans h

theorem cloneW_info : (Try.prog.info? 54).map (fun i => (i.zero, i.size, i.bytes)) = some (some (.agg #[.int .i64 0, .slice none 0 0]), 2, 32) := by kernel_rfl

set_option maxHeartbeats 1000000 in
theorem cloneW_any (S : Nat → Prop) (w : World) (a : Option Addr) (n c : Nat) (l : List Wr) (h : Sl eWr S w a n c l) :
    Calls Try.prog 38 #[.slice a n c] w (OwnRet eWr S 54 w l) := by
  obtain ⟨i0, hi, hz0, hz1, hz2⟩ := info_parts cloneW_info
  have hnb : n * 32 ≤ 140737488355328 := h.bytes
  have hl := h.length
  cases a with
  | none =>
    have hn : n = 0 := by have := h.nil rfl; have := h.cap; omega
    subst hn
    obtain rfl := List.eq_nil_of_length_eq_zero hl
    have heq := fun w => Lib.run_eql_slice_nil (P := Try.prog) w 23 54 none 0 c 0 0 Try.underlying23
    clear h hl hnb
    go_enter Try.func38, Try.ntmps38
    go_wp2
    go_ret
    exact ⟨_, _, rfl, World.ownsRow_nil _ _ _ _, Elems.nil, by (repeat (first | (with_reducible assumption) | exact Below.refl _ _ | refine Below.setCell ?_ (by first | (simp; done) | (simp; omega) | omega) _ | refine Below.alloc ?_ (by first | (simp; done) | (simp; omega) | omega) _ | refine Below.drew ?_ | refine below_drewN ?_ _))⟩
  | some ad =>
    have heq := fun w => Lib.run_eql_slice_nil (P := Try.prog) w 23 54 (some ad) n c 0 0 Try.underlying23
    obtain ⟨xs, hxs, hcell⟩ := h.cells (by decide)
    have HE := Lib.hid hxs
    have HC := Lib.hid (hcell ad rfl)
    have HL := Lib.hid hl
    clear h hxs hcell hl
    have hown := World.ownsRow_made w #[] 0 (base := w.heap.size) (e := 54) (size := 2) (Nat.le_refl _) (by simp [maxLen]) (by simp)
    go_enter Try.func38, Try.ntmps38
    go_wp2_with (at_builtin; refine wpList_append_own _ rfl (.tmp 5) (.tmp 6) 23 rfl w.heap.size 54 i0 (.agg #[.int .i64 0, .slice none 0 0]) 2 32 Try.underlying23 hi hz0 hz1 hz2 rfl (by decide) _ _ _ rfl hown ad n c xs rfl ?c1 ?c2 ?c3 ?c4 ?c5 ?c6 ?_)
    case c1 => rw [HE.out.length, HL.out]; rfl
    case c2 => intro j u hu; exact cell_after _ (HC.out j u hu)
    case c3 => exact HE.out.one (by decide) one_wr
    case c4 => simp only [maxLen]; omega
    case c5 => omega
    case c6 => simp
    intro v' w1 hown' hgrow _
    have hown2 : w1.ownsRow w.heap.size 54 2 v' n xs := by simpa using hown'
    have HO := Lib.hid hown2
    have HG := Lib.hid hgrow
    clear hown hown' hown2 hgrow
    go_wp2
    go_ret
    have hb : Below w.heap.size w w1 := ((Below.refl _ _).alloc (Nat.le_refl _) _).grown HG.out (by simp) (by intro k hk; simp [Value.ownBlock] at hk; omega)
    exact ⟨_, xs, rfl, by rw [HL.out]; exact HO.out, HE.out.mono (keep_of_below hb), hb⟩

theorem cloneB_info : (Try.prog.info? 35).map (fun i => (i.zero, i.size, i.bytes)) = some (some (.slice none 0 0), 1, 24) := by kernel_rfl

set_option maxHeartbeats 1000000 in
theorem cloneB_any (S : Nat → Prop) (w : World) (a : Option Addr) (n c : Nat) (l : List Bytes) (h : Sl (eSl eByte) S w a n c l) :
    Calls Try.prog 46 #[.slice a n c] w (OwnRet (eSl eByte) S 35 w l) := by
  obtain ⟨i0, hi, hz0, hz1, hz2⟩ := info_parts cloneB_info
  have hnb : n * 24 ≤ 140737488355328 := h.bytes
  have hl := h.length
  cases a with
  | none =>
    have hn : n = 0 := by have := h.nil rfl; have := h.cap; omega
    subst hn
    obtain rfl := List.eq_nil_of_length_eq_zero hl
    have heq := fun w => Lib.run_eql_slice_nil (P := Try.prog) w 22 35 none 0 c 0 0 Try.underlying22
    clear h hl hnb
    go_enter Try.func46, Try.ntmps46
    go_wp2
    go_ret
    exact ⟨_, _, rfl, World.ownsRow_nil _ _ _ _, Elems.nil, by (repeat (first | (with_reducible assumption) | exact Below.refl _ _ | refine Below.setCell ?_ (by first | (simp; done) | (simp; omega) | omega) _ | refine Below.alloc ?_ (by first | (simp; done) | (simp; omega) | omega) _ | refine Below.drew ?_ | refine below_drewN ?_ _))⟩
  | some ad =>
    have heq := fun w => Lib.run_eql_slice_nil (P := Try.prog) w 22 35 (some ad) n c 0 0 Try.underlying22
    obtain ⟨xs, hxs, hcell⟩ := h.cells (by decide)
    have HE := Lib.hid hxs
    have HC := Lib.hid (hcell ad rfl)
    have HL := Lib.hid hl
    clear h hxs hcell hl
    have hown := World.ownsRow_made w #[] 0 (base := w.heap.size) (e := 35) (size := 1) (Nat.le_refl _) (by simp [maxLen]) (by simp)
    go_enter Try.func46, Try.ntmps46
    go_wp2_with (at_builtin; refine wpList_append_own _ rfl (.tmp 5) (.tmp 6) 22 rfl w.heap.size 35 i0 (.slice none 0 0) 1 24 Try.underlying22 hi hz0 hz1 hz2 rfl (by decide) _ _ _ rfl hown ad n c xs rfl ?c1 ?c2 ?c3 ?c4 ?c5 ?c6 ?_)
    case c1 => rw [HE.out.length, HL.out]; rfl
    case c2 => intro j u hu; exact cell_after _ (HC.out j u hu)
    case c3 => exact HE.out.one (by decide) one_sl
    case c4 => simp only [maxLen]; omega
    case c5 => omega
    case c6 => simp
    intro v' w1 hown' hgrow _
    have hown2 : w1.ownsRow w.heap.size 35 1 v' n xs := by simpa using hown'
    have HO := Lib.hid hown2
    have HG := Lib.hid hgrow
    clear hown hown' hown2 hgrow
    go_wp2
    go_ret
    have hb : Below w.heap.size w w1 := ((Below.refl _ _).alloc (Nat.le_refl _) _).grown HG.out (by simp) (by intro k hk; simp [Value.ownBlock] at hk; omega)
    exact ⟨_, xs, rfl, by rw [HL.out]; exact HO.out, HE.out.mono (keep_of_below hb), hb⟩

theorem cloneY_info : (Try.prog.info? 5).map (fun i => (i.zero, i.size, i.bytes)) = some (some (.int .u8 0), 1, 1) := by kernel_rfl

set_option maxHeartbeats 1000000 in
theorem cloneY_any (S : Nat → Prop) (w : World) (a : Option Addr) (n c : Nat) (l : List UInt8) (h : Sl eByte S w a n c l) :
    Calls Try.prog 41 #[.slice a n c] w (OwnRet eByte S 5 w l) := by
  obtain ⟨i0, hi, hz0, hz1, hz2⟩ := info_parts cloneY_info
  have hnb : n * 1 ≤ 140737488355328 := h.bytes
  have hl := h.length
  cases a with
  | none =>
    have hn : n = 0 := by have := h.nil rfl; have := h.cap; omega
    subst hn
    obtain rfl := List.eq_nil_of_length_eq_zero hl
    have heq := fun w => Lib.run_eql_slice_nil (P := Try.prog) w 35 5 none 0 c 0 0 Try.underlying35
    clear h hl hnb
    go_enter Try.func41, Try.ntmps41
    go_wp2
    go_ret
    exact ⟨_, _, rfl, World.ownsRow_nil _ _ _ _, Elems.nil, by (repeat (first | (with_reducible assumption) | exact Below.refl _ _ | refine Below.setCell ?_ (by first | (simp; done) | (simp; omega) | omega) _ | refine Below.alloc ?_ (by first | (simp; done) | (simp; omega) | omega) _ | refine Below.drew ?_ | refine below_drewN ?_ _))⟩
  | some ad =>
    have heq := fun w => Lib.run_eql_slice_nil (P := Try.prog) w 35 5 (some ad) n c 0 0 Try.underlying35
    obtain ⟨xs, hxs, hcell⟩ := h.cells (by decide)
    have HE := Lib.hid hxs
    have HC := Lib.hid (hcell ad rfl)
    have HL := Lib.hid hl
    clear h hxs hcell hl
    have hown := World.ownsRow_made w #[] 0 (base := w.heap.size) (e := 5) (size := 1) (Nat.le_refl _) (by simp [maxLen]) (by simp)
    go_enter Try.func41, Try.ntmps41
    go_wp2_with (at_builtin; refine wpList_append_own _ rfl (.tmp 5) (.tmp 6) 35 rfl w.heap.size 5 i0 (.int .u8 0) 1 1 Try.underlying35 hi hz0 hz1 hz2 rfl (by decide) _ _ _ rfl hown ad n c xs rfl ?c1 ?c2 ?c3 ?c4 ?c5 ?c6 ?_)
    case c1 => rw [HE.out.length, HL.out]; rfl
    case c2 => intro j u hu; exact cell_after _ (HC.out j u hu)
    case c3 => exact HE.out.one (by decide) one_byte
    case c4 => simp only [maxLen]; omega
    case c5 => omega
    case c6 => simp
    intro v' w1 hown' hgrow _
    have hown2 : w1.ownsRow w.heap.size 5 1 v' n xs := by simpa using hown'
    have HO := Lib.hid hown2
    have HG := Lib.hid hgrow
    clear hown hown' hown2 hgrow
    go_wp2
    go_ret
    have hb : Below w.heap.size w w1 := ((Below.refl _ _).alloc (Nat.le_refl _) _).grown HG.out (by simp) (by intro k hk; simp [Value.ownBlock] at hk; omega)
    exact ⟨_, xs, rfl, by rw [HL.out]; exact HO.out, HE.out.mono (keep_of_below hb), hb⟩

end Go.Proofs.Ytckcdokfhdckhaa
