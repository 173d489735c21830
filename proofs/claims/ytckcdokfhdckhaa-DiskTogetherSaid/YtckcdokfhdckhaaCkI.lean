/- The walks of slices.Clip and disk.Write. -/
import Derived.Test.YtckcdokfhdckhaaRows
import Derived.Test.YtckcdokfhdckhaaCkH
import Derived.WalkKit
import Derived.WalkLawsBesides
import Derived.WalkSpells
import Derived.Outline
import Derived.Lib.Hide
import Derived.Laws.CopyOwn
import Derived.Deep.OwnRows
import Derived.RangeFuncBox
namespace Go.Proofs.Ytckcdokfhdckhaa
open Go.RowKit Go.Kx

def byteV (x : UInt8) : Value := .int .u8 x.toNat
def pad (b : Bytes) : Bytes := b ++ List.replicate (128 - b.length) 0
def zeros : Array Value := madeCells #[.int .u8 0] 128
theorem madeCells_rep (z : Value) (n : Nat) : madeCells #[z] n = (List.replicate n z).toArray := by
  apply Array.ext
  · simp [size_madeCells]
  · intro i h1 h2
    simp [madeCells, Nat.mod_one]
theorem rep_map (n : Nat) : List.replicate n (Value.int .u8 0) = (List.replicate n (0 : UInt8)).map byteV := by rw [List.map_replicate]; rfl
theorem zeros_eq : zeros = ((List.replicate 128 (0 : UInt8)).map byteV).toArray := by
  unfold zeros
  rw [madeCells_rep, rep_map]

theorem Sl.of_heap {S : Nat → Prop} {w : World} {g : Nat} {t : TypeId} {l : Bytes} (h : w.heap[g]? = some (.cells (l.map byteV).toArray t (0, 0))) (hS : S g) (hb : l.length ≤ 140737488355328) : Sl eByte S w (some ⟨g, 0, none⟩) l.length l.length l := by
  refine ⟨rfl, Nat.le_refl _, by simp [maxLen]; omega, by simpa [eByte] using hb, (by intro h; cases h), fun i hi => ⟨g, 0, [byteV l[i]], rfl, hS, (Array.getElem?_eq_some_iff.1 h).1, rfl, fun j hj => ?_, rfl⟩⟩
  simp only [eByte] at hj
  obtain rfl : j = 0 := by omega
  rw [cell_of_row w g _ _ t (0, 0) h]
  simp [eByte, hi]

theorem Sl.byte_cells {S : Nat → Prop} {w : World} {a : Option Addr} {n c : Nat} {l : Bytes} (h : Sl eByte S w a n c l) : ∀ ad, a = some ad → ∀ j u, (l.map byteV)[j]? = some u → w.cell? (ad.add j) = some u := by
  intro ad had j u hu
  rw [List.getElem?_map] at hu
  obtain ⟨x, hx, rfl⟩ := Option.map_eq_some_iff.1 hu
  obtain ⟨hj, rfl⟩ := List.getElem?_eq_some_iff.1 hx
  obtain ⟨b, off, cs, h1, _, _, _, h2, h3⟩ := h.elem j hj
  rw [had] at h1
  cases h1
  have := h2 0 (by simp [eByte])
  simp only [eByte] at h3
  subst h3
  rw [addr_add_plain]
  simpa [eByte, byteV] using this

theorem byteV_one (l : Bytes) : ∀ v ∈ l.map byteV, v.oneCell' = true := by
  intro v hv
  obtain ⟨x, _, rfl⟩ := List.mem_map.1 hv
  rfl

theorem clipW_any (a : Option Addr) (n c : Nat) (w : World) (hc : n ≤ c) (ha : a = none → c = 0) (hm : n ≤ 140737488355328) :
    Calls Try.prog 37 #[.slice a n c] w fun e w' => e = .returned (.slice a n n) ∧ w = w' := by
  cases a with
  | none =>
    have h0 := ha rfl
    subst h0
    obtain rfl : n = 0 := by omega
    clear hc ha hm
    go_enter Try.func37, Try.ntmps37
    go_wp2
    go_ret
    exact ⟨rfl, rfl⟩
  | some ad =>
    clear ha
    go_enter Try.func37, Try.ntmps37
    go_wp2
    go_ret
    exact ⟨rfl, rfl⟩

def writeF (d : Disk) (at_ : Int) (b : Bytes) : Disk × Int :=
  if (Disk.ok d && !d.stopped) && (decide (0 ≤ at_) && decide (at_ < (d.secs.length : Int))) then
    (if 128 < b.length then (zeroDisk, 1) else if d.pend.length = 4096 then (zeroDisk, 2) else ({ d with pend := d.pend ++ [⟨at_, pad b⟩] }, 0))
  else (zeroDisk, 40)

theorem box4 {w : World} {b : Nat} {t : TypeId} {v0 v1 v2 v3 : Value} (h : w.heap[b]? = some (.cells #[v0, v1, v2, v3] t (0, 0))) :
    w.cell? ⟨b, 0, none⟩ = some v0 ∧ w.cell? ⟨b, 1, none⟩ = some v1 ∧ w.cell? ⟨b, 2, none⟩ = some v2 ∧ w.cell? ⟨b, 3, none⟩ = some v3 ∧ (∀ o, w.frozen? ⟨b, o, none⟩ = false) := by
  refine ⟨?_, ?_, ?_, ?_, ?_⟩ <;> simp [World.cell?, World.frozen?, h]

theorem heap_alloc_at (w : World) (o : Obj) (n : Nat) (hn : n = w.heap.size) : (w.alloc o).heap[n]? = some o := by subst hn; exact World.alloc_heap_new w o

theorem two_new (w : World) (v0 v1 : Value) (t : TypeId) : ∀ j u, [v0, v1][j]? = some u → (w.alloc (.cells #[v0, v1] t)).cell? ((⟨w.heap.size, 0, none⟩ : Addr).add j) = some u := by
  intro j u hu
  rw [addr_add_plain, cell_of_row _ _ _ #[v0, v1] t (0, 0) (heap_alloc_at _ _ _ rfl)]
  simpa using hu
theorem two_one (k : IntKind) (n : Int) (a : Option Addr) (m c : Nat) : ∀ u ∈ [Value.int k n, .slice a m c], u.oneCell' = true := by
  intro u hu
  simp only [List.mem_cons, List.not_mem_nil, or_false] at hu
  rcases hu with rfl | rfl <;> rfl

theorem set_other (w : World) (b o : Nat) (u : Value) (k : Nat) (h : k ≠ b) : (w.setCell ⟨b, o, none⟩ u).heap[k]? = w.heap[k]? := Below.heap_setCell w ⟨b, o, none⟩ u k h

/-- A box of four cells, written whole. -/
theorem set4 {w : World} {b : Nat} {t : TypeId} {a0 a1 a2 a3 v0 v1 v2 v3 : Value} (h : w.heap[b]? = some (.cells #[a0, a1, a2, a3] t (0, 0))) :
    ((((w.setCell ⟨b, 0, none⟩ v0).setCell ⟨b, 1, none⟩ v1).setCell ⟨b, 2, none⟩ v2).setCell ⟨b, 3, none⟩ v3).heap[b]? = some (.cells #[v0, v1, v2, v3] t (0, 0)) ∧
    (∀ k, k ≠ b → ((((w.setCell ⟨b, 0, none⟩ v0).setCell ⟨b, 1, none⟩ v1).setCell ⟨b, 2, none⟩ v2).setCell ⟨b, 3, none⟩ v3).heap[k]? = w.heap[k]?) := by
  refine ⟨?_, fun k hk => ?_⟩
  · simp [World.setCell, Array.getElem?_modify, h]
  · rw [set_other _ _ _ _ _ hk, set_other _ _ _ _ _ hk, set_other _ _ _ _ _ hk, set_other _ _ _ _ _ hk]

theorem Disk.ok_out {d : Disk} (h : Disk.ok d = true) : 1 ≤ d.secs.length ∧ d.secs.length ≤ 4096 ∧ d.pend.length ≤ 4096 ∧ -1 ≤ d.left ∧ d.left ≤ 65536 ∧ d.pend.any (badW d.secs.length) = false ∧ d.secs.any badB = false := by
  simp only [Disk.ok, Bool.and_eq_true, Bool.not_eq_true', Bool.or_eq_false_iff, decide_eq_false_iff_not] at h
  obtain ⟨⟨⟨⟨⟨⟨h1, h2⟩, h3⟩, h4⟩, h5⟩, h6⟩, h7⟩ := h
  exact ⟨by omega, by omega, by omega, by omega, by omega, h6, h7⟩

theorem copy_src {S : Nat → Prop} {w : World} {a : Option Addr} {n c : Nat} {b : Bytes} (h : Sl eByte S w a n c b) (o : Obj) (g : Nat) :
    0 < (b.map byteV).length → (some ⟨g, 0, none⟩ : Option Addr) = some ⟨g, 0, none⟩ ∧ ∃ ad, a = some ad ∧ ∀ j v, (b.map byteV)[j]? = some v → (w.alloc o).cell? (ad.add j) = some v := by
  intro hpos
  refine ⟨rfl, ?_⟩
  cases hba : a with
  | none => have := h.nil hba; have := h.cap; have := h.length; simp at hpos; omega
  | some ad => exact ⟨ad, rfl, fun j v hj => cell_after _ (Sl.byte_cells h ad hba j v hj)⟩

theorem splice_pad (b : Bytes) (_h : b.length ≤ 128) : splice ((List.replicate 128 (0 : UInt8)).map byteV) 0 (b.map byteV) = (pad b).map byteV := by
  unfold splice pad
  simp only [List.take_zero, List.nil_append, Nat.zero_add, List.length_map, List.map_append]
  congr 1
  rw [← List.map_drop, List.drop_replicate]

end Go.Proofs.Ytckcdokfhdckhaa
