/- The representation of Go data by Lean data: slices, structs, strings, numbers. No program in sight. -/
import Derived.WalkKit
import Derived.ProofKit
namespace Go.Kx
open Go.RowKit

/-- How a value of one Go type, laid out in cells, reads as Lean data, in a world, within a set S of blocks. -/
structure Enc (α : Type) where
  size : Nat
  bytes : Nat
  rel : (Nat → Prop) → World → List Value → α → Prop
  len : ∀ {S w cs a}, rel S w cs a → cs.length = size
  mono : ∀ {S S' : Nat → Prop} {w w' : World} {cs : List Value} {a : α}, rel S w cs a → (∀ b, S b → b < w.heap.size → S' b ∧ w'.heap[b]? = w.heap[b]?) → rel S' w' cs a

/-- A slice value whose elements read as the list l. -/
structure Sl {α : Type} (E : Enc α) (S : Nat → Prop) (w : World) (oa : Option Addr) (n c : Nat) (l : List α) : Prop where
  length : l.length = n
  cap : n ≤ c
  capMax : c ≤ maxLen
  bytes : n * E.bytes ≤ 140737488355328
  nil : oa = none → c = 0
  elem : ∀ i (h : i < l.length), ∃ b off cs, oa = some ⟨b, off, none⟩ ∧ S b ∧ b < w.heap.size ∧ cs.length = E.size ∧ (∀ j, j < E.size → w.cell? ⟨b, off + i * E.size + j, none⟩ = cs[j]?) ∧ E.rel S w cs l[i]

def All : Nat → Prop := fun _ => True

def eByte : Enc UInt8 where
  size := 1
  bytes := 1
  rel _ _ cs a := cs = [.int .u8 a.toNat]
  len h := by subst h; rfl
  mono h _ := h

def eInt : Enc Int where
  size := 1
  bytes := 8
  rel _ _ cs a := cs = [.int .i64 a] ∧ -9223372036854775808 ≤ a ∧ a ≤ 9223372036854775807
  len h := by rw [h.1]; rfl
  mono h _ := h

def eBool : Enc Bool where
  size := 1
  bytes := 1
  rel _ _ cs a := cs = [.bool a]
  len h := by subst h; rfl
  mono h _ := h

theorem Sl.mono {α : Type} {E : Enc α} {S S' : Nat → Prop} {w w' : World} {oa : Option Addr} {n c : Nat} {l : List α} (h : Sl E S w oa n c l)
    (hk : ∀ b, S b → b < w.heap.size → S' b ∧ w'.heap[b]? = w.heap[b]?) : Sl E S' w' oa n c l := by
  refine ⟨h.length, h.cap, h.capMax, h.bytes, h.nil, fun i hi => ?_⟩
  obtain ⟨b, off, cs, ho, hS, hb, hl, hc, hr⟩ := h.elem i hi
  obtain ⟨hS', hw⟩ := hk b hS hb
  refine ⟨b, off, cs, ho, hS', ?_, hl, fun j hj => ?_, E.mono hr hk⟩
  · have : w.heap[b]? ≠ none := by rw [Array.getElem?_eq_getElem hb]; simp
    rw [← hw] at this
    exact Nat.lt_of_not_le fun h => this (Array.getElem?_eq_none h)
  · rw [← hc j hj]; exact World.cell?_of_block (w := w) hw

def eSl {α : Type} (E : Enc α) : Enc (List α) where
  size := 1
  bytes := 24
  rel S w cs l := ∃ oa n c, cs = [.slice oa n c] ∧ Sl E S w oa n c l
  len h := by obtain ⟨_, _, _, rfl, _⟩ := h; rfl
  mono h hk := by
    obtain ⟨oa, n, c, rfl, h⟩ := h
    exact ⟨oa, n, c, rfl, h.mono hk⟩

def ePair {α β : Type} (E : Enc α) (F : Enc β) : Enc (α × β) where
  size := E.size + F.size
  bytes := E.bytes + F.bytes
  rel S w cs x := ∃ c d, cs = c ++ d ∧ E.rel S w c x.1 ∧ F.rel S w d x.2
  len h := by obtain ⟨c, d, rfl, h1, h2⟩ := h; simp [E.len h1, F.len h2]
  mono h hk := by
    obtain ⟨c, d, rfl, h1, h2⟩ := h
    exact ⟨c, d, rfl, E.mono h1 hk, F.mono h2 hk⟩


/-- What a world keeps while nothing below its own size changes. -/
theorem keep_of_below {S : Nat → Prop} {w w' : World} (h : Below w.heap.size w w') : ∀ b, S b → b < w.heap.size → S b ∧ w'.heap[b]? = w.heap[b]? := fun b hS hb => ⟨hS, h.block b hb⟩

theorem Sl.below {α : Type} {E : Enc α} {S : Nat → Prop} {w w' : World} {oa : Option Addr} {n c : Nat} {l : List α} (h : Sl E S w oa n c l) (hb : Below w.heap.size w w') : Sl E S w' oa n c l := h.mono (keep_of_below hb)

/-- api.Write -/
structure Wr where
  at_ : Int
  data : List UInt8

def eWr : Enc Wr where
  size := 2
  bytes := 32
  rel S w cs x := ∃ oa n c, cs = [.int .i64 x.at_, .slice oa n c] ∧ (-9223372036854775808 ≤ x.at_ ∧ x.at_ ≤ 9223372036854775807) ∧ Sl eByte S w oa n c x.data
  len h := by obtain ⟨_, _, _, rfl, _⟩ := h; rfl
  mono h hk := by
    obtain ⟨oa, n, c, rfl, h, h2⟩ := h
    exact ⟨oa, n, c, rfl, h, h2.mono hk⟩

abbrev Bytes := List UInt8

/-- api.Disk -/
structure Disk where
  secs : List Bytes
  pend : List Wr
  left : Int
  stopped : Bool

structure DiskAt (S : Nat → Prop) (w : World) (sa : Option Addr) (sn sc : Nat) (pa : Option Addr) (pn pc : Nat) (D : Disk) : Prop where
  secs : Sl (eSl eByte) S w sa sn sc D.secs
  pend : Sl eWr S w pa pn pc D.pend
  lo : -9223372036854775808 ≤ D.left
  hi : D.left ≤ 9223372036854775807

theorem DiskAt.mono {S S' : Nat → Prop} {w w' : World} {sa : Option Addr} {sn sc : Nat} {pa : Option Addr} {pn pc : Nat} {D : Disk} (h : DiskAt S w sa sn sc pa pn pc D)
    (hk : ∀ b, S b → b < w.heap.size → S' b ∧ w'.heap[b]? = w.heap[b]?) : DiskAt S' w' sa sn sc pa pn pc D :=
  ⟨h.secs.mono hk, h.pend.mono hk, h.lo, h.hi⟩

theorem DiskAt.below {S : Nat → Prop} {w w' : World} {sa : Option Addr} {sn sc : Nat} {pa : Option Addr} {pn pc : Nat} {D : Disk} (h : DiskAt S w sa sn sc pa pn pc D) (hb : Below w.heap.size w w') :
    DiskAt S w' sa sn sc pa pn pc D := h.mono (keep_of_below hb)

/-- Some bool, and nothing that was there has turned. -/
def SomeBool (w : World) (e : Ending) (w' : World) : Prop := ∃ b, e = .returned (.bool b) ∧ Below w.heap.size w w'
theorem SomeBool.mk {w w' : World} {b : Bool} (h : Below w.heap.size w w') : SomeBool w (.returned (.bool b)) w' := ⟨b, rfl, h⟩

/-- The blocks of S, and those made since w. -/
def Up (S : Nat → Prop) (w : World) : Nat → Prop := fun b => S b ∨ w.heap.size ≤ b

theorem Sl.zero {α : Type} (E : Enc α) (S : Nat → Prop) (w : World) : Sl E S w none 0 0 [] :=
  ⟨rfl, Nat.le_refl _, by simp [maxLen], by simp, fun _ => rfl, fun i h => absurd h (Nat.not_lt_zero _)⟩

def zeroDisk : Disk := ⟨[], [], 0, false⟩

theorem DiskAt.zero (S : Nat → Prop) (w : World) : DiskAt S w none 0 0 none 0 0 zeroDisk := ⟨Sl.zero _ _ _, Sl.zero _ _ _, by decide, by decide⟩

/-- What a function hands back that returns a disk and an error. -/
def RetDisk (S : Nat → Prop) (w : World) (r : Disk × Int) (e : Ending) (w' : World) : Prop :=
  ∃ sa sn sc pa pn pc, e = .returned (.tuple #[.agg #[.slice sa sn sc, .slice pa pn pc, .int .i64 r.1.left, .bool r.1.stopped], .int .i64 r.2]) ∧ DiskAt (Up S w) w' sa sn sc pa pn pc r.1 ∧ Below w.heap.size w w'

theorem RetDisk.zero {S : Nat → Prop} {w w' : World} {err : Int} {r : Disk × Int} (hr : r = (zeroDisk, err)) (hb : Below w.heap.size w w') :
    RetDisk S w r (.returned (.tuple #[.agg #[.slice none 0 0, .slice none 0 0, .int .i64 0, .bool false], .int .i64 err])) w' := by
  subst hr
  exact ⟨none, 0, 0, none, 0, 0, rfl, DiskAt.zero _ _, hb⟩

theorem RetDisk.of {S : Nat → Prop} {w w' : World} {err : Int} {r : Disk × Int} {D : Disk} {sa : Option Addr} {sn sc : Nat} {pa : Option Addr} {pn pc : Nat} {left : Int} {st : Bool} (hr : r = (D, err)) (hl : D.left = left) (hst : D.stopped = st)
    (hb : Below w.heap.size w w') (h : Below w.heap.size w w' → DiskAt (Up S w) w' sa sn sc pa pn pc D) :
    RetDisk S w r (.returned (.tuple #[.agg #[.slice sa sn sc, .slice pa pn pc, .int .i64 left, .bool st], .int .i64 err])) w' := by
  subst hr hl hst
  exact ⟨sa, sn, sc, pa, pn, pc, rfl, h hb, hb⟩

theorem keepUp_of_below {S : Nat → Prop} {w w' : World} (h : Below w.heap.size w w') : ∀ b, S b → b < w.heap.size → Up S w b ∧ w'.heap[b]? = w.heap[b]? := fun b hS hb => ⟨.inl hS, h.block b hb⟩

theorem any_take_snoc {α : Type} (l : List α) (p : α → Bool) (k : Nat) (h : k < l.length) : (l.take (k + 1)).any p = ((l.take k).any p || p l[k]) := by
  rw [List.take_succ_eq_append_getElem h, List.any_append]; simp

theorem cell_at {E : Nat} {w : World} {b off i : Nat} {cs : List Value} (h : ∀ j, j < E → w.cell? ⟨b, off + i * E + j, none⟩ = cs[j]?) (j : Nat) {v : Value} (hj : j < E) (hv : cs[j]? = some v) : w.cell? ⟨b, off + i * E + j, none⟩ = some v := (h j hj).trans hv

end Go.Kx
