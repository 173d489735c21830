/- The walks of slices.Clone at the three slices of a disk. -/
import Derived.Test.YtckcdokfhdckhaaRows
import Derived.Test.YtckcdokfhdckhaaFrame1
import Derived.Test.YtckcdokfhdckhaaDisk1
import Derived.WalkKit
import Derived.WalkLawsBesides
import Derived.WalkSpells
import Derived.Outline
import Derived.Lib.Hide
import Derived.Lib.LazyBuf
import Derived.Laws.CopyOwn
import Derived.Deep.OwnRows
import Derived.RangeFuncBox
namespace Go.Proofs.Ytckcdokfhdckhaa
open Go.RowKit Go.Kx

/-- What a function hands back that returns a slice of its own. -/
def OwnRet {α : Type} (E : Enc α) (S : Nat → Prop) (te : TypeId) (w : World) (l : List α) (e : Ending) (w' : World) : Prop :=
  ∃ v xs, e = .returned v ∧ w'.ownsRow w.heap.size te E.size v l.length xs ∧ Elems E S w' xs l ∧ Below w.heap.size w w'

theorem cell_after {w : World} {a : Addr} {v : Value} (o : Obj) (h : w.cell? a = some v) : (w.alloc o).cell? a = some v :=
  (((Below.refl w.heap.size w).alloc (Nat.le_refl _) o).cell (World.block_lt_of_cell? w a h)).trans h

theorem cloneW_info : (Try.prog.info? 54).map (fun i => (i.zero, i.size, i.bytes)) = some (some (.agg #[.int .i64 0, .slice none 0 0]), 2, 32) := by kernel_rfl

set_option maxHeartbeats 1000000 in
theorem cloneW_any (S : Nat → Prop) (w : World) (a : Option Addr) (n c : Nat) (l : List Wr) (h : Sl eWr S w a n c l) :
    Calls Try.prog 38 #[.slice a n c] w (OwnRet eWr S 54 w l) := by
  obtain ⟨i0, hi, hz0, hz1, hz2⟩ := info_parts cloneW_info
  have hnb : n * 32 ≤ 140737488355328 := h.bytes
  have hl := h.length
  cases a with
  | none =>
    have hn : n = 0 := by have := h.nil rfl; have := h.cap; omega
    subst hn
    obtain rfl := List.eq_nil_of_length_eq_zero hl
    have heq := fun w => Lib.run_eql_slice_nil (P := Try.prog) w 23 54 none 0 c 0 0 Try.underlying23
    clear h hl hnb
    go_enter Try.func38, Try.ntmps38
    go_wp2
    go_ret
    exact ⟨_, _, rfl, World.ownsRow_nil _ _ _ _, Elems.nil, by (repeat (first | (with_reducible assumption) | exact Below.refl _ _ | refine Below.setCell ?_ (by first | (simp; done) | (simp; omega) | omega) _ | refine Below.alloc ?_ (by first | (simp; done) | (simp; omega) | omega) _ | refine Below.drew ?_ | refine below_drewN ?_ _))⟩
  | some ad =>
    have heq := fun w => Lib.run_eql_slice_nil (P := Try.prog) w 23 54 (some ad) n c 0 0 Try.underlying23
    obtain ⟨xs, hxs, hcell⟩ := h.cells (by decide)
    have HE := Lib.hid hxs
    have HC := Lib.hid (hcell ad rfl)
    have HL := Lib.hid hl
    clear h hxs hcell hl
    have hown := World.ownsRow_made w #[] 0 (base := w.heap.size) (e := 54) (size := 2) (Nat.le_refl _) (by simp [maxLen]) (by simp)
    go_enter Try.func38, Try.ntmps38
    go_wp2_with (at_builtin; refine wpList_append_own _ rfl (.tmp 5) (.tmp 6) 23 rfl w.heap.size 54 i0 (.agg #[.int .i64 0, .slice none 0 0]) 2 32 Try.underlying23 hi hz0 hz1 hz2 rfl (by decide) _ _ _ rfl hown ad n c xs rfl ?c1 ?c2 ?c3 ?c4 ?c5 ?c6 ?_)
    case c1 => rw [HE.out.length, HL.out]; rfl
    case c2 => intro j u hu; exact cell_after _ (HC.out j u hu)
    case c3 => exact HE.out.one (by decide) one_wr
    case c4 => simp only [maxLen]; omega
    case c5 => omega
    case c6 => simp
    intro v' w1 hown' hgrow _
    have hown2 : w1.ownsRow w.heap.size 54 2 v' n xs := by simpa using hown'
    have HO := Lib.hid hown2
    have HG := Lib.hid hgrow
    clear hown hown' hown2 hgrow
    go_wp2
    go_ret
    have hb : Below w.heap.size w w1 := ((Below.refl _ _).alloc (Nat.le_refl _) _).grown HG.out (by simp) (by intro k hk; simp [Value.ownBlock] at hk; omega)
    exact ⟨_, xs, rfl, by rw [HL.out]; exact HO.out, HE.out.mono (keep_of_below hb), hb⟩

theorem cloneB_info : (Try.prog.info? 35).map (fun i => (i.zero, i.size, i.bytes)) = some (some (.slice none 0 0), 1, 24) := by kernel_rfl

set_option maxHeartbeats 1000000 in
theorem cloneB_any (S : Nat → Prop) (w : World) (a : Option Addr) (n c : Nat) (l : List Bytes) (h : Sl (eSl eByte) S w a n c l) :
    Calls Try.prog 46 #[.slice a n c] w (OwnRet (eSl eByte) S 35 w l) := by
  obtain ⟨i0, hi, hz0, hz1, hz2⟩ := info_parts cloneB_info
  have hnb : n * 24 ≤ 140737488355328 := h.bytes
  have hl := h.length
  cases a with
  | none =>
    have hn : n = 0 := by have := h.nil rfl; have := h.cap; omega
    subst hn
    obtain rfl := List.eq_nil_of_length_eq_zero hl
    have heq := fun w => Lib.run_eql_slice_nil (P := Try.prog) w 22 35 none 0 c 0 0 Try.underlying22
    clear h hl hnb
    go_enter Try.func46, Try.ntmps46
    go_wp2
    go_ret
    exact ⟨_, _, rfl, World.ownsRow_nil _ _ _ _, Elems.nil, by (repeat (first | (with_reducible assumption) | exact Below.refl _ _ | refine Below.setCell ?_ (by first | (simp; done) | (simp; omega) | omega) _ | refine Below.alloc ?_ (by first | (simp; done) | (simp; omega) | omega) _ | refine Below.drew ?_ | refine below_drewN ?_ _))⟩
  | some ad =>
    have heq := fun w => Lib.run_eql_slice_nil (P := Try.prog) w 22 35 (some ad) n c 0 0 Try.underlying22
    obtain ⟨xs, hxs, hcell⟩ := h.cells (by decide)
    have HE := Lib.hid hxs
    have HC := Lib.hid (hcell ad rfl)
    have HL := Lib.hid hl
    clear h hxs hcell hl
    have hown := World.ownsRow_made w #[] 0 (base := w.heap.size) (e := 35) (size := 1) (Nat.le_refl _) (by simp [maxLen]) (by simp)
    go_enter Try.func46, Try.ntmps46
    go_wp2_with (at_builtin; refine wpList_append_own _ rfl (.tmp 5) (.tmp 6) 22 rfl w.heap.size 35 i0 (.slice none 0 0) 1 24 Try.underlying22 hi hz0 hz1 hz2 rfl (by decide) _ _ _ rfl hown ad n c xs rfl ?c1 ?c2 ?c3 ?c4 ?c5 ?c6 ?_)
    case c1 => rw [HE.out.length, HL.out]; rfl
    case c2 => intro j u hu; exact cell_after _ (HC.out j u hu)
    case c3 => exact HE.out.one (by decide) one_sl
    case c4 => simp only [maxLen]; omega
    case c5 => omega
    case c6 => simp
    intro v' w1 hown' hgrow _
    have hown2 : w1.ownsRow w.heap.size 35 1 v' n xs := by simpa using hown'
    have HO := Lib.hid hown2
    have HG := Lib.hid hgrow
    clear hown hown' hown2 hgrow
    go_wp2
    go_ret
    have hb : Below w.heap.size w w1 := ((Below.refl _ _).alloc (Nat.le_refl _) _).grown HG.out (by simp) (by intro k hk; simp [Value.ownBlock] at hk; omega)
    exact ⟨_, xs, rfl, by rw [HL.out]; exact HO.out, HE.out.mono (keep_of_below hb), hb⟩

theorem cloneY_info : (Try.prog.info? 5).map (fun i => (i.zero, i.size, i.bytes)) = some (some (.int .u8 0), 1, 1) := by kernel_rfl

set_option maxHeartbeats 1000000 in
theorem cloneY_any (S : Nat → Prop) (w : World) (a : Option Addr) (n c : Nat) (l : List UInt8) (h : Sl eByte S w a n c l) :
    Calls Try.prog 41 #[.slice a n c] w (OwnRet eByte S 5 w l) := by
  obtain ⟨i0, hi, hz0, hz1, hz2⟩ := info_parts cloneY_info
  have hnb : n * 1 ≤ 140737488355328 := h.bytes
  have hl := h.length
  cases a with
  | none =>
    have hn : n = 0 := by have := h.nil rfl; have := h.cap; omega
    subst hn
    obtain rfl := List.eq_nil_of_length_eq_zero hl
    have heq := fun w => Lib.run_eql_slice_nil (P := Try.prog) w 35 5 none 0 c 0 0 Try.underlying35
    clear h hl hnb
    go_enter Try.func41, Try.ntmps41
    go_wp2
    go_ret
    exact ⟨_, _, rfl, World.ownsRow_nil _ _ _ _, Elems.nil, by (repeat (first | (with_reducible assumption) | exact Below.refl _ _ | refine Below.setCell ?_ (by first | (simp; done) | (simp; omega) | omega) _ | refine Below.alloc ?_ (by first | (simp; done) | (simp; omega) | omega) _ | refine Below.drew ?_ | refine below_drewN ?_ _))⟩
  | some ad =>
    have heq := fun w => Lib.run_eql_slice_nil (P := Try.prog) w 35 5 (some ad) n c 0 0 Try.underlying35
    obtain ⟨xs, hxs, hcell⟩ := h.cells (by decide)
    have HE := Lib.hid hxs
    have HC := Lib.hid (hcell ad rfl)
    have HL := Lib.hid hl
    clear h hxs hcell hl
    have hown := World.ownsRow_made w #[] 0 (base := w.heap.size) (e := 5) (size := 1) (Nat.le_refl _) (by simp [maxLen]) (by simp)
    go_enter Try.func41, Try.ntmps41
    go_wp2_with (at_builtin; refine wpList_append_own _ rfl (.tmp 5) (.tmp 6) 35 rfl w.heap.size 5 i0 (.int .u8 0) 1 1 Try.underlying35 hi hz0 hz1 hz2 rfl (by decide) _ _ _ rfl hown ad n c xs rfl ?c1 ?c2 ?c3 ?c4 ?c5 ?c6 ?_)
    case c1 => rw [HE.out.length, HL.out]; rfl
    case c2 => intro j u hu; exact cell_after _ (HC.out j u hu)
    case c3 => exact HE.out.one (by decide) one_byte
    case c4 => simp only [maxLen]; omega
    case c5 => omega
    case c6 => simp
    intro v' w1 hown' hgrow _
    have hown2 : w1.ownsRow w.heap.size 5 1 v' n xs := by simpa using hown'
    have HO := Lib.hid hown2
    have HG := Lib.hid hgrow
    clear hown hown' hown2 hgrow
    go_wp2
    go_ret
    have hb : Below w.heap.size w w1 := ((Below.refl _ _).alloc (Nat.le_refl _) _).grown HG.out (by simp) (by intro k hk; simp [Value.ownBlock] at hk; omega)
    exact ⟨_, xs, rfl, by rw [HL.out]; exact HO.out, HE.out.mono (keep_of_below hb), hb⟩

end Go.Proofs.Ytckcdokfhdckhaa

/- The walks of slices.Clip and disk.Write. -/
namespace Go.Proofs.Ytckcdokfhdckhaa
open Go.RowKit Go.Kx

def byteV (x : UInt8) : Value := .int .u8 x.toNat
def pad (b : Bytes) : Bytes := b ++ List.replicate (128 - b.length) 0
def zeros : Array Value := madeCells #[.int .u8 0] 128
theorem madeCells_rep (z : Value) (n : Nat) : madeCells #[z] n = (List.replicate n z).toArray := by
  apply Array.ext
  · simp [size_madeCells]
  · intro i h1 h2
    simp [madeCells, Nat.mod_one]
theorem rep_map (n : Nat) : List.replicate n (Value.int .u8 0) = (List.replicate n (0 : UInt8)).map byteV := by rw [List.map_replicate]; rfl
theorem zeros_eq : zeros = ((List.replicate 128 (0 : UInt8)).map byteV).toArray := by
  unfold zeros
  rw [madeCells_rep, rep_map]

theorem Sl.of_heap {S : Nat → Prop} {w : World} {g : Nat} {t : TypeId} {l : Bytes} (h : w.heap[g]? = some (.cells (l.map byteV).toArray t (0, 0))) (hS : S g) (hb : l.length ≤ 140737488355328) : Sl eByte S w (some ⟨g, 0, none⟩) l.length l.length l := by
  refine ⟨rfl, Nat.le_refl _, by simp [maxLen]; omega, by simpa [eByte] using hb, (by intro h; cases h), fun i hi => ⟨g, 0, [byteV l[i]], rfl, hS, (Array.getElem?_eq_some_iff.1 h).1, rfl, fun j hj => ?_, rfl⟩⟩
  simp only [eByte] at hj
  obtain rfl : j = 0 := by omega
  rw [cell_of_row w g _ _ t (0, 0) h]
  simp [eByte, hi]

theorem Sl.byte_cells {S : Nat → Prop} {w : World} {a : Option Addr} {n c : Nat} {l : Bytes} (h : Sl eByte S w a n c l) : ∀ ad, a = some ad → ∀ j u, (l.map byteV)[j]? = some u → w.cell? (ad.add j) = some u := by
  intro ad had j u hu
  rw [List.getElem?_map] at hu
  obtain ⟨x, hx, rfl⟩ := Option.map_eq_some_iff.1 hu
  obtain ⟨hj, rfl⟩ := List.getElem?_eq_some_iff.1 hx
  obtain ⟨b, off, cs, h1, _, _, _, h2, h3⟩ := h.elem j hj
  rw [had] at h1
  cases h1
  have := h2 0 (by simp [eByte])
  simp only [eByte] at h3
  subst h3
  rw [addr_add_plain]
  simpa [eByte, byteV] using this

theorem byteV_one (l : Bytes) : ∀ v ∈ l.map byteV, v.oneCell' = true := by
  intro v hv
  obtain ⟨x, _, rfl⟩ := List.mem_map.1 hv
  rfl

theorem clipW_any (a : Option Addr) (n c : Nat) (w : World) (hc : n ≤ c) (ha : a = none → c = 0) (hm : n ≤ 140737488355328) :
    Calls Try.prog 37 #[.slice a n c] w fun e w' => e = .returned (.slice a n n) ∧ w = w' := by
  cases a with
  | none =>
    have h0 := ha rfl
    subst h0
    obtain rfl : n = 0 := by omega
    clear hc ha hm
    go_enter Try.func37, Try.ntmps37
    go_wp2
    go_ret
    exact ⟨rfl, rfl⟩
  | some ad =>
    clear ha
    go_enter Try.func37, Try.ntmps37
    go_wp2
    go_ret
    exact ⟨rfl, rfl⟩

def writeF (d : Disk) (at_ : Int) (b : Bytes) : Disk × Int :=
  if (Disk.ok d && !d.stopped) && (decide (0 ≤ at_) && decide (at_ < (d.secs.length : Int))) then
    (if 128 < b.length then (zeroDisk, 1) else if d.pend.length = 4096 then (zeroDisk, 2) else ({ d with pend := d.pend ++ [⟨at_, pad b⟩] }, 0))
  else (zeroDisk, 40)

theorem box4 {w : World} {b : Nat} {t : TypeId} {v0 v1 v2 v3 : Value} (h : w.heap[b]? = some (.cells #[v0, v1, v2, v3] t (0, 0))) :
    w.cell? ⟨b, 0, none⟩ = some v0 ∧ w.cell? ⟨b, 1, none⟩ = some v1 ∧ w.cell? ⟨b, 2, none⟩ = some v2 ∧ w.cell? ⟨b, 3, none⟩ = some v3 ∧ (∀ o, w.frozen? ⟨b, o, none⟩ = false) := by
  refine ⟨?_, ?_, ?_, ?_, ?_⟩ <;> simp [World.cell?, World.frozen?, h]

theorem heap_alloc_at (w : World) (o : Obj) (n : Nat) (hn : n = w.heap.size) : (w.alloc o).heap[n]? = some o := by subst hn; exact World.alloc_heap_new w o

theorem two_new (w : World) (v0 v1 : Value) (t : TypeId) : ∀ j u, [v0, v1][j]? = some u → (w.alloc (.cells #[v0, v1] t)).cell? ((⟨w.heap.size, 0, none⟩ : Addr).add j) = some u := by
  intro j u hu
  rw [addr_add_plain, cell_of_row _ _ _ #[v0, v1] t (0, 0) (heap_alloc_at _ _ _ rfl)]
  simpa using hu
theorem two_one (k : IntKind) (n : Int) (a : Option Addr) (m c : Nat) : ∀ u ∈ [Value.int k n, .slice a m c], u.oneCell' = true := by
  intro u hu
  simp only [List.mem_cons, List.not_mem_nil, or_false] at hu
  rcases hu with rfl | rfl <;> rfl

theorem set_other (w : World) (b o : Nat) (u : Value) (k : Nat) (h : k ≠ b) : (w.setCell ⟨b, o, none⟩ u).heap[k]? = w.heap[k]? := Below.heap_setCell w ⟨b, o, none⟩ u k h

/-- A box of four cells, written whole. -/
theorem set4 {w : World} {b : Nat} {t : TypeId} {a0 a1 a2 a3 v0 v1 v2 v3 : Value} (h : w.heap[b]? = some (.cells #[a0, a1, a2, a3] t (0, 0))) :
    ((((w.setCell ⟨b, 0, none⟩ v0).setCell ⟨b, 1, none⟩ v1).setCell ⟨b, 2, none⟩ v2).setCell ⟨b, 3, none⟩ v3).heap[b]? = some (.cells #[v0, v1, v2, v3] t (0, 0)) ∧
    (∀ k, k ≠ b → ((((w.setCell ⟨b, 0, none⟩ v0).setCell ⟨b, 1, none⟩ v1).setCell ⟨b, 2, none⟩ v2).setCell ⟨b, 3, none⟩ v3).heap[k]? = w.heap[k]?) := by
  refine ⟨?_, fun k hk => ?_⟩
  · simp [World.setCell, Array.getElem?_modify, h]
  · rw [set_other _ _ _ _ _ hk, set_other _ _ _ _ _ hk, set_other _ _ _ _ _ hk, set_other _ _ _ _ _ hk]

theorem Disk.ok_out {d : Disk} (h : Disk.ok d = true) : 1 ≤ d.secs.length ∧ d.secs.length ≤ 4096 ∧ d.pend.length ≤ 4096 ∧ -1 ≤ d.left ∧ d.left ≤ 65536 ∧ d.pend.any (badW d.secs.length) = false ∧ d.secs.any badB = false := by
  simp only [Disk.ok, Bool.and_eq_true, Bool.not_eq_true', Bool.or_eq_false_iff, decide_eq_false_iff_not] at h
  obtain ⟨⟨⟨⟨⟨⟨h1, h2⟩, h3⟩, h4⟩, h5⟩, h6⟩, h7⟩ := h
  exact ⟨by omega, by omega, by omega, by omega, by omega, h6, h7⟩

theorem copy_src {S : Nat → Prop} {w : World} {a : Option Addr} {n c : Nat} {b : Bytes} (h : Sl eByte S w a n c b) (o : Obj) (g : Nat) :
    0 < (b.map byteV).length → (some ⟨g, 0, none⟩ : Option Addr) = some ⟨g, 0, none⟩ ∧ ∃ ad, a = some ad ∧ ∀ j v, (b.map byteV)[j]? = some v → (w.alloc o).cell? (ad.add j) = some v := by
  intro hpos
  refine ⟨rfl, ?_⟩
  cases hba : a with
  | none => have := h.nil hba; have := h.cap; have := h.length; simp at hpos; omega
  | some ad => exact ⟨ad, rfl, fun j v hj => cell_after _ (Sl.byte_cells h ad hba j v hj)⟩

theorem splice_pad (b : Bytes) (_h : b.length ≤ 128) : splice ((List.replicate 128 (0 : UInt8)).map byteV) 0 (b.map byteV) = (pad b).map byteV := by
  unfold splice pad
  simp only [List.take_zero, List.nil_append, Nat.zero_add, List.length_map, List.map_append]
  congr 1
  rw [← List.map_drop, List.drop_replicate]

end Go.Proofs.Ytckcdokfhdckhaa

/- The walk of disk.Write where it writes. -/
namespace Go.Proofs.Ytckcdokfhdckhaa
open Go.RowKit Go.Kx

set_option maxHeartbeats 2000000 in
set_option maxRecDepth 20000 in
theorem write_ok (S : Nat → Prop) (w : World) (sa : Option Addr) (sn sc : Nat) (pa : Option Addr) (pn pc : Nat) (ba : Option Addr) (bn bc : Nat) (D : Disk) (at_ : Int) (b : Bytes) (h0 : -9223372036854775808 ≤ at_ ∧ at_ ≤ 9223372036854775807)
    (h : DiskAt S w sa sn sc pa pn pc D) (hbb : Sl eByte S w ba bn bc b) (hok : (Disk.ok D && !D.stopped) = true) (hin : 0 ≤ at_ ∧ at_ < (sn : Int)) (hlt128 : bn ≤ 128) (hp : pn ≠ 4096) :
    Calls Try.prog 19 #[.agg #[.slice sa sn sc, .slice pa pn pc, .int .i64 D.left, .bool D.stopped], .int .i64 at_, .slice ba bn bc] w (RetDisk S w ({ D with pend := D.pend ++ [⟨at_, pad b⟩] }, 0)) := by
  have hb0 : Below w.heap.size w ((w.alloc (.cells #[.slice sa sn sc, .slice pa pn pc, .int .i64 D.left, .bool D.stopped] 25)).alloc (.cells #[.slice none 0 0, .slice none 0 0, .int .i64 0, .bool false] 25)) := by (repeat (first | (with_reducible assumption) | exact Below.refl _ _ | refine Below.setCell ?_ (by first | (simp; done) | (simp; omega) | omega) _ | refine Below.alloc ?_ (by first | (simp; done) | (simp; omega) | omega) _ | refine Below.drew ?_ | refine below_drewN ?_ _))
  have hD0 : ((w.alloc (.cells #[.slice sa sn sc, .slice pa pn pc, .int .i64 D.left, .bool D.stopped] 25)).alloc (.cells #[.slice none 0 0, .slice none 0 0, .int .i64 0, .bool false] 25)).heap[w.heap.size]? = some (.cells #[.slice sa sn sc, .slice pa pn pc, .int .i64 D.left, .bool D.stopped] 25 (0, 0)) := by
    rw [Below.heap_alloc _ _ _ (by simp)]; exact heap_alloc_at _ _ _ rfl
  have hR0 : ((w.alloc (.cells #[.slice sa sn sc, .slice pa pn pc, .int .i64 D.left, .bool D.stopped] 25)).alloc (.cells #[.slice none 0 0, .slice none 0 0, .int .i64 0, .bool false] 25)).heap[w.heap.size + 1]? = some (.cells #[.slice none 0 0, .slice none 0 0, .int .i64 0, .bool false] 25 (0, 0)) := heap_alloc_at _ _ _ (by simp)
  have HD0 := Lib.hid hD0
  have HR0 := Lib.hid hR0
  have H := Lib.hid (runs_any S _ sa sn sc pa pn pc D.left D.stopped D.secs D.pend (h.secs.below hb0) (h.pend.below hb0))
  have HD := Lib.hid h
  have HB := Lib.hid hbb
  have hls := Lib.hid h.secs.length
  have hlp := Lib.hid h.pend.length
  have hlb := Lib.hid hbb.length
  have hpn : pn ≤ 4398046511104 := by have := h.pend.bytes; simp [eWr] at this; omega
  have hbn : bn ≤ 140737488355328 := by have := hbb.bytes; simp [eByte] at this; omega
  clear h hbb hD0 hR0
  have hdd : (decide ((0 : Int) ≤ at_) && decide (at_ < (sn : Int))) = true := by simp; omega
  have hpt : ((pn : Int) == 4096) = false := by simp; omega
  rw [show (Disk.ok { secs := D.secs, pend := D.pend, left := D.left, stopped := D.stopped } && !D.stopped) = true from hok] at H
  have hinfo8 : (Try.prog.info? 5).map (·.size) = some 1 := by kernel_rfl
  have hmin : (b.map byteV).length = Nat.min bn 128 := by rw [List.length_map, hlb.out]; exact (Nat.min_eq_left hlt128).symm
  have Hmin := Lib.hid hmin
  have hfit : 0 + (b.map byteV).length ≤ ((List.replicate 128 (0 : UInt8)).map byteV).length := by rw [List.length_map, List.length_map, List.length_replicate, hlb.out]; omega
  have Hfit := Lib.hid hfit
  have hle1 : w.heap.size ≤ ((w.alloc (.cells #[.slice sa sn sc, .slice pa pn pc, .int .i64 D.left, .bool D.stopped] 25)).alloc (.cells #[.slice none 0 0, .slice none 0 0, .int .i64 0, .bool false] 25)).heap.size := by simp; omega
  have hq1 : D.pend.length + 1 ≤ maxLen := by have := hlp.out; simp only [maxLen]; omega
  have hq2 : (D.pend.length + 1) * 32 ≤ 140737488355328 := by have := (Disk.ok_out (by simp only [Bool.and_eq_true] at hok; exact hok.1)).2.2.1; omega
  have hq3 : D.pend.length ≤ 140737488355328 := by have := hlp.out; omega
  have HQ1 := Lib.hid hq1
  have HQ2 := Lib.hid hq2
  have HQ3 := Lib.hid hq3
  clear hmin hfit hok hin hp hq1 hq2 hq3
  have hmk : ∀ w, (Instr.makeSlice 35 (.int .i64 128) (.int .i64 128)).run Try.prog w = .ok (.slice (some ⟨w.heap.size, 0, none⟩) 128 128) (w.alloc (.cells zeros 5)) := fun w => run_make_row' (P := Try.prog) 35 5 (.int .u8 0) 1 Try.underlying35 cloneY_info rfl .i64 .i64 128 (by decide) (by decide) w
  obtain ⟨i0, hi, hz0, hz1, hz2⟩ := info_parts cloneW_info
  go_enter Try.func19, Try.ntmps19
  go_wp2_with (first | ((with_reducible refine H.out.mono ?_); rintro e w1 ⟨rfl, hb1⟩; have hz : w.heap.size + 1 < w1.heap.size := (by have := hb1.size; simp at this; omega); obtain ⟨d0, d1, d2, d3, df⟩ := box4 ((hb1.block (w.heap.size) (by first | (simp; done) | (simp; omega) | omega)).trans HD0.out)) | (go_at_call 36; refine (has_any _ _ _ _ _ _ _ _ _ _).mono ?_; rw [hdd]; rintro e w2 ⟨rfl, hb3⟩; clear d0 d1 d2 d3 df; have HR2 := Lib.hid ((hb3.block (w.heap.size + 1) (by first | (simp; done) | (simp; omega) | omega)).trans ((hb1.block (w.heap.size + 1) (by first | (simp; done) | (simp; omega) | omega)).trans HR0.out)); have HD2 := Lib.hid ((hb3.block (w.heap.size) (by first | (simp; done) | (simp; omega) | omega)).trans ((hb1.block (w.heap.size) (by first | (simp; done) | (simp; omega) | omega)).trans HD0.out)); obtain ⟨d0, d1, d2, d3, df⟩ := box4 HD2.out) | ((with_reducible refine atSlot 34 ?_); refine wpList_copy_splice rfl (.tmp 32) (.tmp 33) 35 35 rfl 5 Try.underlying35 hinfo8 (some ⟨w2.heap.size, 0, none⟩) ba 128 128 bn bc rfl rfl w2.heap.size 0 ((List.replicate 128 (0 : UInt8)).map byteV) 5 (by rw [← zeros_eq]; exact heap_alloc_at _ _ _ rfl) (b.map byteV) Hmin.out (copy_src (HB.out.below ((hb0.trans (hb1.mono hle1)).trans (hb3.mono (by omega)))) _ _) Hfit.out (byteV_one b) w2.heap.size w2 ((Below.refl _ _).alloc (Nat.le_refl _) _) (Nat.le_refl _) ?_; intro w3 hd3 hb4; have hb2 : Below w.heap.size w w2 := (hb0.trans (hb1.mono (by simp; omega))).trans (hb3.mono (by omega)); have hz2' : w.heap.size + 1 < w2.heap.size := (by have := hb3.size; omega); have hz3 : w2.heap.size < w3.heap.size := (Array.getElem?_eq_some_iff.1 hd3.out).1; have hb5 : Below w.heap.size w w3 := hb2.trans (hb4.mono (by omega)); have HR3 := Lib.hid ((hb4.block (w.heap.size + 1) (by first | (simp; done) | (simp; omega) | omega)).trans HR2.out); have HD3 := Lib.hid ((hb4.block (w.heap.size) (by first | (simp; done) | (simp; omega) | omega)).trans HD2.out); clear d0 d1 d2 d3 df HR2 HD2 HR0 HD0 H hb0 hb1 hb3 hmk; obtain ⟨d0, d1, d2, d3, df⟩ := box4 HD3.out; have HC := Lib.hid (cloneW_any (fun b => S b ∧ b < w.heap.size) w3 pa pn pc D.pend (HD.out.pend.mono (fun b hS hb => ⟨⟨hS, hb⟩, hb5.block b hb⟩)))) | ((with_reducible refine HC.out.mono ?_); rintro e w4 ⟨v, xs, rfl, hown, hel, hb6⟩; obtain ⟨a4, c4, rfl, hs4⟩ := Sl.of_owns (S' := Up (fun b => S b ∧ b < w.heap.size) w3) hown hel (by decide) (by have := hlp.out; simp [eWr]; omega) (fun b hb _ => .inl hb) (fun g hg => .inr (hown.lt g hg).1); clear HC; have HS4 := Lib.hid hs4; clear hs4 hown hel; clear d0 d1 d2 d3 df; have hz4 : w3.heap.size ≤ w4.heap.size := hb6.size; have HR4 := Lib.hid ((hb6.block (w.heap.size + 1) (by first | (simp; done) | (simp; omega) | omega)).trans HR3.out); have HD4 := Lib.hid ((hb6.block (w.heap.size) (by first | (simp; done) | (simp; omega) | omega)).trans HD3.out); obtain ⟨d0, d1, d2, d3, df⟩ := box4 HD4.out) | (go_at_call 37; refine (clipW_any _ _ _ _ HS4.out.cap HS4.out.nil HQ3.out).mono ?_; rintro e w5 ⟨rfl, rfl⟩; obtain ⟨olds, hol, hoc⟩ := HS4.out.cells (by decide); have HOL := Lib.hid hol; have HOC := Lib.hid hoc; clear hol hoc; have hn4 : a4 = none → D.pend.length = 0 ∧ D.pend.length = 0 := (fun h => by have := HS4.out.nil h; have := HS4.out.cap; omega); have HN4 := Lib.hid hn4; clear hn4) | ((with_reducible refine atSlot 43 ?_); go_loud (refine wpList_append_grows _ rfl (.tmp 38) (.tmp 42) 23 rfl 54 i0 (.agg #[.int .i64 0, .slice none 0 0]) 2 32 Try.underlying23 hi hz0 hz1 hz2 rfl (by decide) a4 D.pend.length D.pend.length olds rfl HN4.out HOL.out.length (fun b hb j u hu => cell_after _ (HOC.out b hb j u hu)) ⟨w4.heap.size, 0, none⟩ 1 1 [.int .i64 at_, .slice (some ⟨w2.heap.size, 0, none⟩) 128 128] rfl rfl (two_new _ _ _ _) (two_one _ _ _ _ _) (Nat.lt_succ_self _) HQ1.out HQ2.out ?_); intro v5 w5 hown5 hgrow5; have hb7 : Below w4.heap.size w4 w5 := (((Below.refl _ w4).alloc (Nat.le_refl _) _).grown hgrow5 (by simp) (fun k e => by cases e)); obtain ⟨g5, cap5, rfl⟩ := ownsRow_succ hown5; have HO5 := Lib.hid hown5; clear hown5 hgrow5; clear d0 d1 d2 d3 df; have hz5 : w4.heap.size ≤ w5.heap.size := hb7.size; have HR5 := Lib.hid ((hb7.block (w.heap.size + 1) (by first | (simp; done) | (simp; omega) | omega)).trans HR4.out); have HD5 := Lib.hid ((hb7.block (w.heap.size) (by first | (simp; done) | (simp; omega) | omega)).trans HD4.out); obtain ⟨d0, d1, d2, d3, df⟩ := box4 HD5.out; obtain ⟨r0, r1, r2, r3, rf⟩ := box4 HR5.out))
  refine bodyPost_ret (v := .tuple #[.agg #[.slice sa sn sc, .slice (some ⟨g5, 0, none⟩) (D.pend.length + 1) cap5, .int .i64 D.left, .bool D.stopped], .int .i64 0]) (by simp [results, Try.results19, go_sem, r0, r1, r2, r3]) rfl ?_
  have hbw5 : Below w.heap.size w w5 := (hb5.trans (hb6.mono (by omega))).trans (hb7.mono (by omega))
  refine RetDisk.of (D := { D with pend := D.pend ++ [⟨at_, pad b⟩] }) rfl rfl rfl (by (repeat (first | (with_reducible assumption) | exact Below.refl _ _ | refine Below.setCell ?_ (by first | (simp; done) | (simp; omega) | omega) _ | refine Below.alloc ?_ (by first | (simp; done) | (simp; omega) | omega) _ | refine Below.drew ?_ | refine below_drewN ?_ _))) fun hbF => ⟨HD.out.secs.mono (keepUp_of_below hbF), ?_, HD.out.lo, HD.out.hi⟩
  have hlen : (pad b).length = 128 := by simp only [pad, List.length_append, List.length_replicate]; have := hlb.out; omega
  have hdat : Sl eByte (fun b => (S b ∧ b < w.heap.size) ∨ w2.heap.size ≤ b) w5 (some ⟨w2.heap.size, 0, none⟩) 128 128 (pad b) := by
    have h3 : w5.heap[w2.heap.size]? = some (.cells ((pad b).map byteV).toArray 5 (0, 0)) := by
      rw [hb7.block _ (by omega), hb6.block _ (by omega), hd3.out, splice_pad b (by have := hlb.out; omega)]
    have := Sl.of_heap (S := fun b => (S b ∧ b < w.heap.size) ∨ w2.heap.size ≤ b) h3 (.inr (Nat.le_refl _)) (by omega)
    rwa [hlen] at this
  have hel : Elems eWr (fun b => (S b ∧ b < w.heap.size) ∨ w2.heap.size ≤ b) w5 (olds ++ [.int .i64 at_, .slice (some ⟨w2.heap.size, 0, none⟩) 128 128]) (D.pend ++ [⟨at_, pad b⟩]) := by
    refine (HOL.out.mono fun k hk hlt => ⟨?_, hb7.block k hlt⟩).append (Elems.single ⟨some ⟨w2.heap.size, 0, none⟩, 128, 128, rfl, h0, hdat⟩)
    rcases hk with hk | hk
    · exact .inl hk
    · exact .inr (by omega)
  obtain ⟨a6, c6, hv6, hs6⟩ := Sl.of_owns (S' := fun b => (S b ∧ b < w.heap.size) ∨ w2.heap.size ≤ b) HO5.out hel (by decide) (by simpa [eWr] using HQ2.out) (fun b hb _ => hb) (fun g hg => .inr (by have := (HO5.out.lt g hg).1; simp at this; omega))
  cases hv6
  refine hs6.mono fun k hk hlt => ⟨?_, ?_⟩
  · rcases hk with hk | hk
    · exact .inl hk.1
    · exact .inr (by omega)
  · have k1 : k ≠ w.heap.size := by rcases hk with hk | hk <;> omega
    have k2 : k ≠ w.heap.size + 1 := by rcases hk with hk | hk <;> omega
    rw [set_other _ _ _ _ _ k2, set_other _ _ _ _ _ k2, set_other _ _ _ _ _ k2, set_other _ _ _ _ _ k2, set_other _ _ _ _ _ k1]

end Go.Proofs.Ytckcdokfhdckhaa

/- The walk of disk.Write . -/
namespace Go.Proofs.Ytckcdokfhdckhaa
open Go.RowKit Go.Kx

set_option maxHeartbeats 2000000 in
theorem write_any (S : Nat → Prop) (w : World) (sa : Option Addr) (sn sc : Nat) (pa : Option Addr) (pn pc : Nat) (ba : Option Addr) (bn bc : Nat) (D : Disk) (at_ : Int) (b : Bytes) (h0 : -9223372036854775808 ≤ at_ ∧ at_ ≤ 9223372036854775807)
    (h : DiskAt S w sa sn sc pa pn pc D) (hbb : Sl eByte S w ba bn bc b) :
    Calls Try.prog 19 #[.agg #[.slice sa sn sc, .slice pa pn pc, .int .i64 D.left, .bool D.stopped], .int .i64 at_, .slice ba bn bc] w (RetDisk S w (writeF D at_ b)) := by
  have hb0 : Below w.heap.size w ((w.alloc (.cells #[.slice sa sn sc, .slice pa pn pc, .int .i64 D.left, .bool D.stopped] 25)).alloc (.cells #[.slice none 0 0, .slice none 0 0, .int .i64 0, .bool false] 25)) := by (repeat (first | (with_reducible assumption) | exact Below.refl _ _ | refine Below.setCell ?_ (by first | (simp; done) | (simp; omega) | omega) _ | refine Below.alloc ?_ (by first | (simp; done) | (simp; omega) | omega) _ | refine Below.drew ?_ | refine below_drewN ?_ _))
  have hD0 : ((w.alloc (.cells #[.slice sa sn sc, .slice pa pn pc, .int .i64 D.left, .bool D.stopped] 25)).alloc (.cells #[.slice none 0 0, .slice none 0 0, .int .i64 0, .bool false] 25)).heap[w.heap.size]? = some (.cells #[.slice sa sn sc, .slice pa pn pc, .int .i64 D.left, .bool D.stopped] 25 (0, 0)) := by
    rw [Below.heap_alloc _ _ _ (by simp)]; exact heap_alloc_at _ _ _ rfl
  have hR0 : ((w.alloc (.cells #[.slice sa sn sc, .slice pa pn pc, .int .i64 D.left, .bool D.stopped] 25)).alloc (.cells #[.slice none 0 0, .slice none 0 0, .int .i64 0, .bool false] 25)).heap[w.heap.size + 1]? = some (.cells #[.slice none 0 0, .slice none 0 0, .int .i64 0, .bool false] 25 (0, 0)) := heap_alloc_at _ _ _ (by simp)
  have HD0 := Lib.hid hD0
  have HR0 := Lib.hid hR0
  have H := Lib.hid (runs_any S _ sa sn sc pa pn pc D.left D.stopped D.secs D.pend (h.secs.below hb0) (h.pend.below hb0))
  have HD := Lib.hid h
  have HB := Lib.hid hbb
  have hls := Lib.hid h.secs.length
  have hlp := Lib.hid h.pend.length
  have hlb := Lib.hid hbb.length
  have hpn : pn ≤ 4398046511104 := by have := h.pend.bytes; simp [eWr] at this; omega
  have hbn : bn ≤ 140737488355328 := by have := hbb.bytes; simp [eByte] at this; omega
  clear h hbb hD0 hR0
  cases hok : Disk.ok D && !D.stopped with
  | false =>
    rw [show (Disk.ok { secs := D.secs, pend := D.pend, left := D.left, stopped := D.stopped } && !D.stopped) = false from hok] at H
    have hrf : writeF D at_ b = (zeroDisk, 40) := by simp only [writeF, hok]; rfl
    have HRF := Lib.hid hrf
    clear hrf hok
    go_enter Try.func19, Try.ntmps19
    go_wp2_with ((with_reducible refine H.out.mono ?_); rintro e w1 ⟨rfl, hb1⟩; have hz : w.heap.size + 1 < w1.heap.size := (by have := hb1.size; simp at this; omega); obtain ⟨r0, r1, r2, r3, rf⟩ := box4 ((hb1.block (w.heap.size + 1) (by first | (simp; done) | (simp; omega) | omega)).trans HR0.out))
    have hb2 := hb0.trans (hb1.mono (by simp; omega))
    refine bodyPost_ret (v := .tuple #[.agg #[.slice none 0 0, .slice none 0 0, .int .i64 0, .bool false], .int .i64 40]) (by simp [results, Try.results19, go_sem, r0, r1, r2, r3]) rfl ?_
    exact RetDisk.zero HRF.out (by (repeat (first | (with_reducible assumption) | exact Below.refl _ _ | refine Below.setCell ?_ (by first | (simp; done) | (simp; omega) | omega) _ | refine Below.alloc ?_ (by first | (simp; done) | (simp; omega) | omega) _ | refine Below.drew ?_ | refine below_drewN ?_ _)))
  | true =>
    rw [show (Disk.ok { secs := D.secs, pend := D.pend, left := D.left, stopped := D.stopped } && !D.stopped) = true from hok] at H
    by_cases hin : 0 ≤ at_ ∧ at_ < (sn : Int)
    · have hdd : (decide ((0 : Int) ≤ at_) && decide (at_ < (sn : Int))) = true := by simp; omega
      have hpre : writeF D at_ b = (if 128 < b.length then (zeroDisk, 1) else if D.pend.length = 4096 then (zeroDisk, 2) else ({ D with pend := D.pend ++ [⟨at_, pad b⟩] }, 0)) := by
        have e := hls.out
        simp only [writeF, hok, e, hdd]
        rfl
      have HPRE := Lib.hid hpre
      clear hpre
      by_cases h128 : 128 < (bn : Int)
      · have hrf : writeF D at_ b = (zeroDisk, 1) := by rw [HPRE.out, if_pos (by have := hlb.out; omega)]
        have HRF := Lib.hid hrf
        clear hrf hok hin
        go_enter Try.func19, Try.ntmps19
        go_wp2_with (first | ((with_reducible refine H.out.mono ?_); rintro e w1 ⟨rfl, hb1⟩; have hz : w.heap.size + 1 < w1.heap.size := (by have := hb1.size; simp at this; omega); obtain ⟨d0, d1, d2, d3, df⟩ := box4 ((hb1.block (w.heap.size) (by first | (simp; done) | (simp; omega) | omega)).trans HD0.out)) | (go_at_call 36; refine (has_any _ _ _ _ _ _ _ _ _ _).mono ?_; rw [hdd]; rintro e w2 ⟨rfl, hb3⟩; clear d0 d1 d2 d3 df; obtain ⟨r0, r1, r2, r3, rf⟩ := box4 ((hb3.block (w.heap.size + 1) (by first | (simp; done) | (simp; omega) | omega)).trans ((hb1.block (w.heap.size + 1) (by first | (simp; done) | (simp; omega) | omega)).trans HR0.out)); obtain ⟨d0, d1, d2, d3, df⟩ := box4 ((hb3.block (w.heap.size) (by first | (simp; done) | (simp; omega) | omega)).trans ((hb1.block (w.heap.size) (by first | (simp; done) | (simp; omega) | omega)).trans HD0.out))))
        have hb2 := (hb0.trans (hb1.mono (by simp; omega))).trans (hb3.mono (by omega))
        refine bodyPost_ret (v := .tuple #[.agg #[.slice none 0 0, .slice none 0 0, .int .i64 0, .bool false], .int .i64 1]) (by simp [results, Try.results19, go_sem, r0, r1, r2, r3]) rfl ?_
        exact RetDisk.zero HRF.out (by (repeat (first | (with_reducible assumption) | exact Below.refl _ _ | refine Below.setCell ?_ (by first | (simp; done) | (simp; omega) | omega) _ | refine Below.alloc ?_ (by first | (simp; done) | (simp; omega) | omega) _ | refine Below.drew ?_ | refine below_drewN ?_ _)))
      · by_cases hp : (pn : Int) = 4096
        · have hrf : writeF D at_ b = (zeroDisk, 2) := by rw [HPRE.out, if_neg (by have := hlb.out; omega), if_pos (by have := hlp.out; omega)]
          have HRF := Lib.hid hrf
          have hpt : ((pn : Int) == 4096) = true := by simp [hp]
          clear hrf hp hok hin
          go_enter Try.func19, Try.ntmps19
          go_wp2_with (first | ((with_reducible refine H.out.mono ?_); rintro e w1 ⟨rfl, hb1⟩; have hz : w.heap.size + 1 < w1.heap.size := (by have := hb1.size; simp at this; omega); obtain ⟨d0, d1, d2, d3, df⟩ := box4 ((hb1.block (w.heap.size) (by first | (simp; done) | (simp; omega) | omega)).trans HD0.out)) | (go_at_call 36; refine (has_any _ _ _ _ _ _ _ _ _ _).mono ?_; rw [hdd]; rintro e w2 ⟨rfl, hb3⟩; clear d0 d1 d2 d3 df; obtain ⟨r0, r1, r2, r3, rf⟩ := box4 ((hb3.block (w.heap.size + 1) (by first | (simp; done) | (simp; omega) | omega)).trans ((hb1.block (w.heap.size + 1) (by first | (simp; done) | (simp; omega) | omega)).trans HR0.out)); obtain ⟨d0, d1, d2, d3, df⟩ := box4 ((hb3.block (w.heap.size) (by first | (simp; done) | (simp; omega) | omega)).trans ((hb1.block (w.heap.size) (by first | (simp; done) | (simp; omega) | omega)).trans HD0.out))))
          have hb2 := (hb0.trans (hb1.mono (by simp; omega))).trans (hb3.mono (by omega))
          refine bodyPost_ret (v := .tuple #[.agg #[.slice none 0 0, .slice none 0 0, .int .i64 0, .bool false], .int .i64 2]) (by simp [results, Try.results19, go_sem, r0, r1, r2, r3]) rfl ?_
          exact RetDisk.zero HRF.out (by (repeat (first | (with_reducible assumption) | exact Below.refl _ _ | refine Below.setCell ?_ (by first | (simp; done) | (simp; omega) | omega) _ | refine Below.alloc ?_ (by first | (simp; done) | (simp; omega) | omega) _ | refine Below.drew ?_ | refine below_drewN ?_ _)))
        · have hrf : writeF D at_ b = ({ D with pend := D.pend ++ [⟨at_, pad b⟩] }, 0) := by rw [HPRE.out, if_neg (by have := hlb.out; omega), if_neg (by have := hlp.out; omega)]
          rw [hrf]
          exact write_ok S w sa sn sc pa pn pc ba bn bc D at_ b h0 HD.out HB.out hok hin (by omega) (by omega)
    · have hrf : writeF D at_ b = (zeroDisk, 40) := by
        have e := hls.out
        simp only [writeF, hok, e]
        rw [if_neg]
        simp
        omega
      have HRF := Lib.hid hrf
      clear hrf hok
      have hdd : (decide ((0 : Int) ≤ at_) && decide (at_ < (sn : Int))) = false := by simp; omega
      clear hin
      go_enter Try.func19, Try.ntmps19
      go_wp2_with (first | ((with_reducible refine H.out.mono ?_); rintro e w1 ⟨rfl, hb1⟩; have hz : w.heap.size + 1 < w1.heap.size := (by have := hb1.size; simp at this; omega); obtain ⟨d0, d1, d2, d3, df⟩ := box4 ((hb1.block (w.heap.size) (by first | (simp; done) | (simp; omega) | omega)).trans HD0.out)) | (go_at_call 36; refine (has_any _ _ _ _ _ _ _ _ _ _).mono ?_; rw [hdd]; rintro e w2 ⟨rfl, hb3⟩; obtain ⟨r0, r1, r2, r3, rf⟩ := box4 ((hb3.block (w.heap.size + 1) (by first | (simp; done) | (simp; omega) | omega)).trans ((hb1.block (w.heap.size + 1) (by first | (simp; done) | (simp; omega) | omega)).trans HR0.out))))
      have hb2 := (hb0.trans (hb1.mono (by simp; omega))).trans (hb3.mono (by omega))
      refine bodyPost_ret (v := .tuple #[.agg #[.slice none 0 0, .slice none 0 0, .int .i64 0, .bool false], .int .i64 40]) (by simp [results, Try.results19, go_sem, r0, r1, r2, r3]) rfl ?_
      exact RetDisk.zero HRF.out (by (repeat (first | (with_reducible assumption) | exact Below.refl _ _ | refine Below.setCell ?_ (by first | (simp; done) | (simp; omega) | omega) _ | refine Below.alloc ?_ (by first | (simp; done) | (simp; omega) | omega) _ | refine Below.drew ?_ | refine below_drewN ?_ _)))

end Go.Proofs.Ytckcdokfhdckhaa

/- The walk of the reference's Write where it writes. -/
namespace Go.Proofs.Ytckcdokfhdckhaa
open Go.RowKit Go.Kx

def lenOf : Value → Nat | .slice _ n _ => n | _ => 0

theorem own_form {w : World} {base e size n : Nat} {v : Value} {xs : List Value} (h : w.ownsRow base e size v n xs) : ∃ a c, v = .slice a n c := by
  rcases h.2 with ⟨rfl, rfl⟩ | ⟨g, cap, cur, rfl, _⟩
  · exact ⟨none, 0, rfl⟩
  · exact ⟨_, _, rfl⟩

theorem one_new (w : World) (v : Value) (t : TypeId) : ∀ j u, [v][j]? = some u → (w.alloc (.cells #[v] t)).cell? ((⟨w.heap.size, 0, none⟩ : Addr).add j) = some u := by
  intro j u hu
  rw [addr_add_plain, cell_of_row _ _ _ #[v] t (0, 0) (heap_alloc_at _ _ _ rfl)]
  simpa using hu
theorem one_one (k : IntKind) (n : Int) : ∀ u ∈ [Value.int k n], u.oneCell' = true := by
  intro u hu
  simp only [List.mem_cons, List.not_mem_nil, or_false] at hu
  subst hu; rfl

theorem elems_bytes {S : Nat → Prop} {w : World} (l : Bytes) : Elems eByte S w (l.map byteV) l := by
  refine ⟨by simp [eByte], fun i hi => ?_⟩
  simp only [eByte, Nat.mul_one]
  rw [List.drop_eq_getElem_cons (by simpa using hi)]
  simp [byteV]

theorem pad_step (b : Bytes) (m : Nat) (h : b.length ≤ m) : (b ++ List.replicate (m - b.length) 0).map byteV ++ [.int .u8 0] = (b ++ List.replicate (m + 1 - b.length) 0).map byteV := by
  rw [show m + 1 - b.length = (m - b.length) + 1 by omega, List.replicate_succ', ← List.append_assoc, List.map_append (l₁ := b ++ _)]
  rfl

set_option maxRecDepth 20000 in
set_option maxHeartbeats 2000000 in
theorem rwrite_ok (S : Nat → Prop) (w : World) (sa : Option Addr) (sn sc : Nat) (pa : Option Addr) (pn pc : Nat) (ba : Option Addr) (bn bc : Nat) (D : Disk) (at_ : Int) (b : Bytes) (h0 : -9223372036854775808 ≤ at_ ∧ at_ ≤ 9223372036854775807)
    (h : DiskAt S w sa sn sc pa pn pc D) (hbb : Sl eByte S w ba bn bc b) (hok : Disk.ok D = true) (hst : D.stopped = false) (hin : 0 ≤ at_ ∧ at_ < (sn : Int)) (hlt128 : bn ≤ 128) (hp : pn ≠ 4096) :
    Calls Try.prog 20 #[.agg #[.slice sa sn sc, .slice pa pn pc, .int .i64 D.left, .bool D.stopped], .int .i64 at_, .slice ba bn bc] w (RetDisk S w ({ D with pend := D.pend ++ [⟨at_, pad b⟩] }, 0)) := by
  have HST := Lib.hid hst
  rw [hst]
  have hb0 : Below w.heap.size w ((w.alloc (.cells #[.slice sa sn sc, .slice pa pn pc, .int .i64 D.left, .bool false] 25)).alloc (.cells #[.slice none 0 0, .slice none 0 0, .int .i64 0, .bool false] 25)) := by (repeat (first | (with_reducible assumption) | exact Below.refl _ _ | refine Below.setCell ?_ (by first | (simp; done) | (simp; omega) | omega) _ | refine Below.alloc ?_ (by first | (simp; done) | (simp; omega) | omega) _ | refine Below.drew ?_ | refine below_drewN ?_ _))
  have hD0 : ((w.alloc (.cells #[.slice sa sn sc, .slice pa pn pc, .int .i64 D.left, .bool false] 25)).alloc (.cells #[.slice none 0 0, .slice none 0 0, .int .i64 0, .bool false] 25)).heap[w.heap.size]? = some (.cells #[.slice sa sn sc, .slice pa pn pc, .int .i64 D.left, .bool false] 25 (0, 0)) := by
    rw [Below.heap_alloc _ _ _ (by simp)]; exact heap_alloc_at _ _ _ rfl
  have hR0 : ((w.alloc (.cells #[.slice sa sn sc, .slice pa pn pc, .int .i64 D.left, .bool false] 25)).alloc (.cells #[.slice none 0 0, .slice none 0 0, .int .i64 0, .bool false] 25)).heap[w.heap.size + 1]? = some (.cells #[.slice none 0 0, .slice none 0 0, .int .i64 0, .bool false] 25 (0, 0)) := heap_alloc_at _ _ _ (by simp)
  have HD0 := Lib.hid hD0
  have HR0 := Lib.hid hR0
  have H := Lib.hid (rcheck_any S _ sa sn sc pa pn pc D.left false D.secs D.pend (h.secs.below hb0) (h.pend.below hb0))
  rw [show checkF ⟨D.secs, D.pend, D.left, false⟩ = 0 from (by have : Disk.ok ⟨D.secs, D.pend, D.left, false⟩ = true := hok; simp [checkF, this])] at H
  have HD := Lib.hid h
  have HB := Lib.hid hbb
  have hls := Lib.hid h.secs.length
  have hlp := Lib.hid h.pend.length
  have hlb := Lib.hid hbb.length
  have hpn : pn ≤ 4096 := by have := (Disk.ok_out hok).2.2.1; have := hlp.out; omega
  have hbn : bn ≤ 140737488355328 := by omega
  have hle1 : w.heap.size ≤ ((w.alloc (.cells #[.slice sa sn sc, .slice pa pn pc, .int .i64 D.left, .bool false] 25)).alloc (.cells #[.slice none 0 0, .slice none 0 0, .int .i64 0, .bool false] 25)).heap.size := by simp; omega
  have hpt : ((pn : Int) == 4096) = false := by simp; omega
  obtain ⟨hi0, hi1⟩ := hin
  have hd1 : decide (at_ < 0) = false := by simp; omega
  have hd3 : decide ((128 : Int) < (bn : Int)) = false := by simp; omega
  have hd2 : decide ((sn : Int) ≤ at_) = false := by simp; omega
  have HNZ := Lib.hid (h.pend.none_zero)
  have HNB := Lib.hid (hbb.none_zero)
  have hq1 : pn + 1 ≤ maxLen := by simp only [maxLen]; omega
  have HQ1 := Lib.hid hq1
  have hq2 : (b.map byteV).length = bn * 1 := by rw [List.length_map, hlb.out, Nat.mul_one]
  have HQ2 := Lib.hid hq2
  clear h hbb hD0 hR0 hok hst hp hq1 hq2
  obtain ⟨i0, hi, hz0, hz1, hz2⟩ := info_parts cloneW_info
  obtain ⟨j0, hj, hy0, hy1, hy2⟩ := info_parts cloneY_info
  go_enter Try.func20, Try.ntmps20
  go_wp2_with (first | ((with_reducible refine H.out.mono ?_); rintro e w1 ⟨rfl, hb1⟩; have hz : w.heap.size + 1 < w1.heap.size := (by have := hb1.size; simp at this; omega); have HD1 := Lib.hid ((hb1.block (w.heap.size) (by first | (simp; done) | (simp; omega) | omega)).trans HD0.out); have HR1 := Lib.hid ((hb1.block (w.heap.size + 1) (by first | (simp; done) | (simp; omega) | omega)).trans HR0.out); obtain ⟨d0, d1, d2, d3, df⟩ := box4 HD1.out; have hbw := hb0.trans (hb1.mono hle1); clear hb1 hb0 H HD0 HR0 hle1; have HM := Lib.hid (World.ownsRow_made w1 #[] 0 (base := w1.heap.size) (e := 5) (size := 1) (Nat.le_refl _) (by simp [maxLen]) (by simp))) | ((with_reducible refine atSlot 39 ?_); go_loud (refine wpList_append_slice rfl (.tmp 37) (.tmp 38) 35 rfl w1.heap.size 5 j0 (.int .u8 0) 1 1 Try.underlying35 hj hy0 hy1 hy2 rfl (by decide) _ _ _ rfl HM.out ba bn bc (b.map byteV) rfl HNB.out HQ2.out (fun ad had j u hu => cell_after _ (Sl.byte_cells (HB.out.below hbw) ad had j u hu)) (byteV_one b) (by simp only [maxLen]; omega) (by omega) (by simp) ?_); intro v2 w2 hown2 hgrow2))
  have hb2 : Below w1.heap.size w1 w2 := (((Below.refl _ w1).alloc (Nat.le_refl _) _).grown hgrow2 (by simp) (fun k e => by cases (show some w1.heap.size = some k from e); exact Nat.le_refl _))
  obtain ⟨a2, c2, rfl⟩ := own_form hown2
  have HO2 := Lib.hid hown2
  clear hown2 hgrow2 HM
  simp only [Nat.zero_add]
  go_loopw [8] (fun v wr => ∃ (m : Nat) (l : Bytes), bn ≤ m ∧ m ≤ 128 ∧ Hid (l = b ++ List.replicate (m - b.length) 0) ∧ Hid (wr.ownsRow w1.heap.size 5 1 v m (l.map byteV)) ∧ Below w1.heap.size w1 wr) (fun v _ => 128 - lenOf v)
  case atStart => exact ⟨bn, b, Nat.le_refl _, hlt128, by rw [← hlb.out]; simp [Hid], by show World.ownsRow _ _ _ _ _ _ _; simpa using HO2.out, hb2⟩
  case round =>
    obtain ⟨m, l, hm1, hm2, HL, HO, hbr⟩ := hrel
    obtain ⟨a3, c3, rfl⟩ := own_form HO.out
    clear HO2 hb2
    by_cases hlt : m < 128
    · go_wp2_with ((with_reducible refine atSlot 45 ?_); refine wpList_append_own _ rfl (.tmp 43) (.tmp 44) 35 rfl w1.heap.size 5 j0 (.int .u8 0) 1 1 Try.underlying35 hj hy0 hy1 hy2 rfl (by decide) _ _ _ rfl (HO.out.alloc _) ⟨wr.heap.size, 0, none⟩ 1 1 [.int .u8 0] rfl rfl (one_new _ _ _) (one_one _ _) (by simp only [maxLen]; omega) (by omega) (by have := hbr.size; simp; omega) ?_; intro v4 w4 hown4 hgrow4 _)
      have hb4 : Below w1.heap.size w1 w4 := (hbr.alloc hbr.size _).grown hgrow4 (by have := hbr.size; simp; omega) (fun k e => (HO.out.lt k e).1)
      have HO4 := Lib.hid hown4
      clear hown4 hgrow4
      obtain ⟨a5, c5, rfl⟩ := own_form HO4.out
      go_wp2
      have hown5 : Hid (w4.ownsRow w1.heap.size 5 1 (.slice a5 (m + 1) c5) (m + 1) ((b ++ List.replicate (m + 1 - b.length) 0).map byteV)) := by
        have := HO4.out
        rw [HL.out, pad_step b m (by have := hlb.out; omega)] at this
        exact this
      exact ⟨⟨m + 1, (b ++ List.replicate (m + 1 - b.length) 0), by omega, by omega, rfl, hown5, hb4⟩, by simp [lenOf]; omega⟩
    · obtain rfl : m = 128 := by omega
      have hbw5 : Below w.heap.size w wr := hbw.trans (hbr.mono (by omega))
      have hz5 : w1.heap.size ≤ wr.heap.size := hbr.size
      have HDr := Lib.hid ((hbr.block (w.heap.size) (by first | (simp; done) | (simp; omega) | omega)).trans HD1.out)
      have HRr := Lib.hid ((hbr.block (w.heap.size + 1) (by first | (simp; done) | (simp; omega) | omega)).trans HR1.out)
      have hzr : w.heap.size < wr.heap.size := by omega
      have hzr1 : w.heap.size + 1 < wr.heap.size := by omega
      clear HD1 HR1
      obtain ⟨d0, d1, d2, d3, df⟩ := box4 HDr.out
      obtain ⟨olds, hol, hoc⟩ := (HD.out.pend.mono (S' := fun b => S b ∧ b < w.heap.size) (fun b hS hb => ⟨⟨hS, hb⟩, hbw5.block b hb⟩)).cells (by decide)
      have HOL := Lib.hid hol
      have HOC := Lib.hid hoc
      have hq : olds.length = pn * 2 := by rw [hol.length, hlp.out]; rfl
      have HQ3 := Lib.hid hq
      have HONE := Lib.hid (hol.one (by decide) one_wr)
      clear hol hoc hq
      have HM := Lib.hid (World.ownsRow_made wr #[] 0 (base := wr.heap.size) (e := 54) (size := 2) (Nat.le_refl _) (by simp [maxLen]) (by simp))
      go_wp2_with (first | ((with_reducible refine atSlot 49 ?_); refine wpList_append_slice rfl (.tmp 46) (.tmp 48) 23 rfl wr.heap.size 54 i0 (.agg #[.int .i64 0, .slice none 0 0]) 2 32 Try.underlying23 hi hz0 hz1 hz2 rfl (by decide) _ _ _ rfl HM.out pa pn pc olds rfl HNZ.out HQ3.out (fun ad had j u hu => cell_after _ (HOC.out ad had j u hu)) HONE.out (by simp only [maxLen]; omega) (by omega) (by simp) ?_; intro v6 w6 hown6 hgrow6; have HO6 := Lib.hid hown6; have HG6 := Lib.hid hgrow6; clear hown6 hgrow6) | ((with_reducible refine atSlot 54 ?_); refine wpList_append_own _ rfl (.tmp 49) (.tmp 53) 23 rfl wr.heap.size 54 i0 (.agg #[.int .i64 0, .slice none 0 0]) 2 32 Try.underlying23 hi hz0 hz1 hz2 rfl (by decide) _ _ _ rfl (HO6.out.alloc _) ⟨w6.heap.size, 0, none⟩ 1 1 [.int .i64 at_, .slice a3 128 c3] rfl rfl (two_new _ _ _ _) (two_one _ _ _ _ _) (by simp only [maxLen]; omega) (by omega) (by have := HG6.out.size; simp at this ⊢; omega) ?_; intro v7 w7 hown7 hgrow7 _; have HO7 := Lib.hid hown7; have HG7 := Lib.hid hgrow7; clear hown7 hgrow7; obtain ⟨g7, cap7, rfl⟩ := ownsRow_succ HO7.out; have hb6 : Below wr.heap.size wr w6 := (((Below.refl _ wr).alloc (Nat.le_refl _) _).grown HG6.out (by simp) (fun k e => (by cases (show some wr.heap.size = some k from e); exact Nat.le_refl _))); have hb7 : Below wr.heap.size wr w7 := ((hb6.alloc hb6.size _).grown HG7.out (by have := hb6.size; simp; omega) (fun k e => (HO6.out.lt k e).1)); clear d0 d1 d2 d3 df; obtain ⟨d0, d1, d2, d3, df⟩ := box4 ((hb7.block (w.heap.size) (by first | (simp; done) | (simp; omega) | omega)).trans HDr.out); obtain ⟨r0, r1, r2, r3, rf⟩ := box4 ((hb7.block (w.heap.size + 1) (by first | (simp; done) | (simp; omega) | omega)).trans HRr.out)))
      refine bodyPost_ret (v := .tuple #[.agg #[.slice sa sn sc, .slice (some ⟨g7, 0, none⟩) (pn + 1) cap7, .int .i64 D.left, .bool false], .int .i64 0]) (by simp [results, Try.results20, go_sem, r0, r1, r2, r3]) rfl ?_
      have hbw7 : Below w.heap.size w w7 := hbw5.trans (hb7.mono (by omega))
      refine RetDisk.of (D := ⟨D.secs, D.pend ++ [⟨at_, pad b⟩], D.left, false⟩) rfl rfl rfl (by (repeat (first | (with_reducible assumption) | exact Below.refl _ _ | refine Below.setCell ?_ (by first | (simp; done) | (simp; omega) | omega) _ | refine Below.alloc ?_ (by first | (simp; done) | (simp; omega) | omega) _ | refine Below.drew ?_ | refine below_drewN ?_ _))) fun hbF => ⟨HD.out.secs.mono (keepUp_of_below hbF), ?_, HD.out.lo, HD.out.hi⟩
      have hl : l = pad b := by rw [HL.out]; rfl
      subst hl
      have hdat : Sl eByte (fun b => (S b ∧ b < w.heap.size) ∨ w1.heap.size ≤ b) wr a3 128 c3 (pad b) := by
        obtain ⟨a, c, hv, hs⟩ := Sl.of_owns (S' := fun b => (S b ∧ b < w.heap.size) ∨ w1.heap.size ≤ b) HO.out (elems_bytes (S := fun _ => False) (pad b)) (by decide) (by simp [eByte]) (fun b hb _ => hb.elim) (fun g hg => .inr (HO.out.lt g hg).1)
        cases hv
        exact hs
      have hel : Elems eWr (fun b => (S b ∧ b < w.heap.size) ∨ w1.heap.size ≤ b) w7 (olds ++ [.int .i64 at_, .slice a3 128 c3]) (D.pend ++ [⟨at_, pad b⟩]) := by
        refine ((HOL.out.mono fun k hk hlt => ⟨.inl hk, hb7.block k hlt⟩).append (Elems.single ⟨a3, 128, c3, rfl, h0, hdat.mono fun k hk hlt => ⟨hk, hb7.block k hlt⟩⟩))
      have hO7 : w7.ownsRow wr.heap.size 54 2 (.slice (some ⟨g7, 0, none⟩) (pn + 1) cap7) (pn + 1) (olds ++ [.int .i64 at_, .slice a3 128 c3]) := by simpa using HO7.out
      obtain ⟨a8, c8, hv8, hs8⟩ := Sl.of_owns (S' := fun b => (S b ∧ b < w.heap.size) ∨ w1.heap.size ≤ b) hO7 hel (by decide) (by simp [eWr]; omega) (fun b hb _ => hb) (fun g hg => .inr (by have := (hO7.lt g hg).1; omega))
      cases hv8
      refine hs8.mono fun k hk hlt => ⟨?_, ?_⟩
      · rcases hk with hk | hk
        · exact .inl hk.1
        · exact .inr (by omega)
      · have k1 : k ≠ w.heap.size := by rcases hk with hk | hk <;> omega
        have k2 : k ≠ w.heap.size + 1 := by rcases hk with hk | hk <;> omega
        rw [set_other _ _ _ _ _ k2, set_other _ _ _ _ _ k2, set_other _ _ _ _ _ k2, set_other _ _ _ _ _ k2, set_other _ _ _ _ _ k1]

end Go.Proofs.Ytckcdokfhdckhaa

/- The walk of the reference's Write. -/
namespace Go.Proofs.Ytckcdokfhdckhaa
open Go.RowKit Go.Kx

set_option maxRecDepth 20000 in
set_option maxHeartbeats 2000000 in
theorem rwrite_any (S : Nat → Prop) (w : World) (sa : Option Addr) (sn sc : Nat) (pa : Option Addr) (pn pc : Nat) (ba : Option Addr) (bn bc : Nat) (D : Disk) (at_ : Int) (b : Bytes) (h0 : -9223372036854775808 ≤ at_ ∧ at_ ≤ 9223372036854775807)
    (h : DiskAt S w sa sn sc pa pn pc D) (hbb : Sl eByte S w ba bn bc b) :
    Calls Try.prog 20 #[.agg #[.slice sa sn sc, .slice pa pn pc, .int .i64 D.left, .bool D.stopped], .int .i64 at_, .slice ba bn bc] w (RetDisk S w (writeF D at_ b)) := by
  have hb0 : Below w.heap.size w ((w.alloc (.cells #[.slice sa sn sc, .slice pa pn pc, .int .i64 D.left, .bool D.stopped] 25)).alloc (.cells #[.slice none 0 0, .slice none 0 0, .int .i64 0, .bool false] 25)) := by (repeat (first | (with_reducible assumption) | exact Below.refl _ _ | refine Below.setCell ?_ (by first | (simp; done) | (simp; omega) | omega) _ | refine Below.alloc ?_ (by first | (simp; done) | (simp; omega) | omega) _ | refine Below.drew ?_ | refine below_drewN ?_ _))
  have hR0 : ((w.alloc (.cells #[.slice sa sn sc, .slice pa pn pc, .int .i64 D.left, .bool D.stopped] 25)).alloc (.cells #[.slice none 0 0, .slice none 0 0, .int .i64 0, .bool false] 25)).heap[w.heap.size + 1]? = some (.cells #[.slice none 0 0, .slice none 0 0, .int .i64 0, .bool false] 25 (0, 0)) := heap_alloc_at _ _ _ (by simp)
  have hD0 : ((w.alloc (.cells #[.slice sa sn sc, .slice pa pn pc, .int .i64 D.left, .bool D.stopped] 25)).alloc (.cells #[.slice none 0 0, .slice none 0 0, .int .i64 0, .bool false] 25)).heap[w.heap.size]? = some (.cells #[.slice sa sn sc, .slice pa pn pc, .int .i64 D.left, .bool D.stopped] 25 (0, 0)) := by
    rw [Below.heap_alloc _ _ _ (by simp)]; exact heap_alloc_at _ _ _ rfl
  have H := Lib.hid (rcheck_any S _ sa sn sc pa pn pc D.left D.stopped D.secs D.pend (h.secs.below hb0) (h.pend.below hb0))
  have hls := Lib.hid h.secs.length
  have hlp := Lib.hid h.pend.length
  have hlb := Lib.hid hbb.length
  have hpn : pn ≤ 4398046511104 := by have := h.pend.bytes; simp [eWr] at this; omega
  have hbn : bn ≤ 140737488355328 := by have := hbb.bytes; simp [eByte] at this; omega
  have hckf : checkF ⟨D.secs, D.pend, D.left, D.stopped⟩ = if Disk.ok D then 0 else 40 := rfl
  rw [hckf] at H
  clear hckf
  by_cases hgo : (Disk.ok D = true ∧ D.stopped = false) ∧ (0 ≤ at_ ∧ at_ < (sn : Int)) ∧ bn ≤ 128 ∧ pn ≠ 4096
  · obtain ⟨⟨hok, hst⟩, hin, hb128, hp⟩ := hgo
    have hrf : writeF D at_ b = ({ D with pend := D.pend ++ [⟨at_, pad b⟩] }, 0) := by
      have e := hls.out
      unfold writeF
      rw [if_pos, if_neg (by have := hlb.out; omega), if_neg (by have := hlp.out; omega)]
      rw [hok, hst, e]
      simp
      omega
    rw [hrf]
    exact rwrite_ok S w sa sn sc pa pn pc ba bn bc D at_ b h0 h hbb hok hst hin hb128 hp
  · clear h hbb
    have HD0 := Lib.hid hD0
    have HR0 := Lib.hid hR0
    clear hD0 hR0
    cases hok : Disk.ok D with
    | false =>
      have hrf : writeF D at_ b = (zeroDisk, 40) := by simp only [writeF, hok]; rfl
      have HRF := Lib.hid hrf
      rw [if_neg (by simp [hok])] at H
      clear hrf hok hgo
      go_enter Try.func20, Try.ntmps20
      go_wp2_with ((with_reducible refine H.out.mono ?_); rintro e w1 ⟨rfl, hb1⟩; have hz : w.heap.size + 1 < w1.heap.size := (by have := hb1.size; simp at this; omega); obtain ⟨r0, r1, r2, r3, rf⟩ := box4 ((hb1.block (w.heap.size + 1) (by first | (simp; done) | (simp; omega) | omega)).trans HR0.out); obtain ⟨d0, d1, d2, d3, df⟩ := box4 ((hb1.block (w.heap.size) (by first | (simp; done) | (simp; omega) | omega)).trans HD0.out))
      have hb2 := hb0.trans (hb1.mono (by simp; omega))
      refine bodyPost_ret (v := .tuple #[.agg #[.slice none 0 0, .slice none 0 0, .int .i64 0, .bool false], .int .i64 40]) (by simp [results, Try.results20, go_sem, r0, r1, r2, r3]) rfl ?_
      exact RetDisk.zero HRF.out (by (repeat (first | (with_reducible assumption) | exact Below.refl _ _ | refine Below.setCell ?_ (by first | (simp; done) | (simp; omega) | omega) _ | refine Below.alloc ?_ (by first | (simp; done) | (simp; omega) | omega) _ | refine Below.drew ?_ | refine below_drewN ?_ _)))
    | true =>
      rw [if_pos hok] at H
      cases hst : D.stopped with
      | true =>
        have hrf : writeF D at_ b = (zeroDisk, 40) := by simp only [writeF, hok, hst]; rfl
        have HRF := Lib.hid hrf
        rw [hst] at H hb0 HD0 HR0
        clear hrf hok hst hgo
        go_enter Try.func20, Try.ntmps20
        go_wp2_with ((with_reducible refine H.out.mono ?_); rintro e w1 ⟨rfl, hb1⟩; have hz : w.heap.size + 1 < w1.heap.size := (by have := hb1.size; simp at this; omega); obtain ⟨r0, r1, r2, r3, rf⟩ := box4 ((hb1.block (w.heap.size + 1) (by first | (simp; done) | (simp; omega) | omega)).trans HR0.out); obtain ⟨d0, d1, d2, d3, df⟩ := box4 ((hb1.block (w.heap.size) (by first | (simp; done) | (simp; omega) | omega)).trans HD0.out))
        have hb2 := hb0.trans (hb1.mono (by simp; omega))
        refine bodyPost_ret (v := .tuple #[.agg #[.slice none 0 0, .slice none 0 0, .int .i64 0, .bool false], .int .i64 40]) (by simp [results, Try.results20, go_sem, r0, r1, r2, r3]) rfl ?_
        exact RetDisk.zero HRF.out (by (repeat (first | (with_reducible assumption) | exact Below.refl _ _ | refine Below.setCell ?_ (by first | (simp; done) | (simp; omega) | omega) _ | refine Below.alloc ?_ (by first | (simp; done) | (simp; omega) | omega) _ | refine Below.drew ?_ | refine below_drewN ?_ _)))
      | false =>
        by_cases h1 : at_ < 0
        · have hrf : writeF D at_ b = (zeroDisk, 40) := by unfold writeF; rw [if_neg]; simp; omega
          have HRF := Lib.hid hrf
          rw [hst] at H hb0 HD0 HR0
          clear hrf hok hst hgo
          go_enter Try.func20, Try.ntmps20
          go_wp2_with ((with_reducible refine H.out.mono ?_); rintro e w1 ⟨rfl, hb1⟩; have hz : w.heap.size + 1 < w1.heap.size := (by have := hb1.size; simp at this; omega); obtain ⟨r0, r1, r2, r3, rf⟩ := box4 ((hb1.block (w.heap.size + 1) (by first | (simp; done) | (simp; omega) | omega)).trans HR0.out); obtain ⟨d0, d1, d2, d3, df⟩ := box4 ((hb1.block (w.heap.size) (by first | (simp; done) | (simp; omega) | omega)).trans HD0.out))
          have hb2 := hb0.trans (hb1.mono (by simp; omega))
          refine bodyPost_ret (v := .tuple #[.agg #[.slice none 0 0, .slice none 0 0, .int .i64 0, .bool false], .int .i64 40]) (by simp [results, Try.results20, go_sem, r0, r1, r2, r3]) rfl ?_
          exact RetDisk.zero HRF.out (by (repeat (first | (with_reducible assumption) | exact Below.refl _ _ | refine Below.setCell ?_ (by first | (simp; done) | (simp; omega) | omega) _ | refine Below.alloc ?_ (by first | (simp; done) | (simp; omega) | omega) _ | refine Below.drew ?_ | refine below_drewN ?_ _)))
        · have h1' : 0 ≤ at_ := by omega
          by_cases h2 : (sn : Int) ≤ at_
          · have hrf : writeF D at_ b = (zeroDisk, 40) := by have e := hls.out; unfold writeF; rw [if_neg]; simp; omega
            have HRF := Lib.hid hrf
            rw [hst] at H hb0 HD0 HR0
            clear hrf hok hst hgo h1
            go_enter Try.func20, Try.ntmps20
            go_wp2_with ((with_reducible refine H.out.mono ?_); rintro e w1 ⟨rfl, hb1⟩; have hz : w.heap.size + 1 < w1.heap.size := (by have := hb1.size; simp at this; omega); obtain ⟨r0, r1, r2, r3, rf⟩ := box4 ((hb1.block (w.heap.size + 1) (by first | (simp; done) | (simp; omega) | omega)).trans HR0.out); obtain ⟨d0, d1, d2, d3, df⟩ := box4 ((hb1.block (w.heap.size) (by first | (simp; done) | (simp; omega) | omega)).trans HD0.out))
            have hb2 := hb0.trans (hb1.mono (by simp; omega))
            refine bodyPost_ret (v := .tuple #[.agg #[.slice none 0 0, .slice none 0 0, .int .i64 0, .bool false], .int .i64 40]) (by simp [results, Try.results20, go_sem, r0, r1, r2, r3]) rfl ?_
            exact RetDisk.zero HRF.out (by (repeat (first | (with_reducible assumption) | exact Below.refl _ _ | refine Below.setCell ?_ (by first | (simp; done) | (simp; omega) | omega) _ | refine Below.alloc ?_ (by first | (simp; done) | (simp; omega) | omega) _ | refine Below.drew ?_ | refine below_drewN ?_ _)))
          · have h2' : at_ < (sn : Int) := by omega
            have hpre : writeF D at_ b = (if 128 < b.length then (zeroDisk, 1) else if D.pend.length = 4096 then (zeroDisk, 2) else ({ D with pend := D.pend ++ [⟨at_, pad b⟩] }, 0)) := by
              have e := hls.out
              unfold writeF
              rw [if_pos]
              rw [hok, hst, e]
              simp
              omega
            by_cases h128 : 128 < (bn : Int)
            · have hrf : writeF D at_ b = (zeroDisk, 1) := by rw [hpre, if_pos (by have := hlb.out; omega)]
              have HRF := Lib.hid hrf
              rw [hst] at H hb0 HD0 HR0
              clear hrf hok hst hgo h1 h2 hpre
              go_enter Try.func20, Try.ntmps20
              go_wp2_with ((with_reducible refine H.out.mono ?_); rintro e w1 ⟨rfl, hb1⟩; have hz : w.heap.size + 1 < w1.heap.size := (by have := hb1.size; simp at this; omega); obtain ⟨r0, r1, r2, r3, rf⟩ := box4 ((hb1.block (w.heap.size + 1) (by first | (simp; done) | (simp; omega) | omega)).trans HR0.out); obtain ⟨d0, d1, d2, d3, df⟩ := box4 ((hb1.block (w.heap.size) (by first | (simp; done) | (simp; omega) | omega)).trans HD0.out))
              have hb2 := hb0.trans (hb1.mono (by simp; omega))
              refine bodyPost_ret (v := .tuple #[.agg #[.slice none 0 0, .slice none 0 0, .int .i64 0, .bool false], .int .i64 1]) (by simp [results, Try.results20, go_sem, r0, r1, r2, r3]) rfl ?_
              exact RetDisk.zero HRF.out (by (repeat (first | (with_reducible assumption) | exact Below.refl _ _ | refine Below.setCell ?_ (by first | (simp; done) | (simp; omega) | omega) _ | refine Below.alloc ?_ (by first | (simp; done) | (simp; omega) | omega) _ | refine Below.drew ?_ | refine below_drewN ?_ _)))
            · have hp : (pn : Int) = 4096 := by
                refine Classical.byContradiction fun hp => hgo ⟨⟨hok, hst⟩, ⟨h1', h2'⟩, by omega, by omega⟩
              have hrf : writeF D at_ b = (zeroDisk, 2) := by rw [hpre, if_neg (by have := hlb.out; omega), if_pos (by have := hlp.out; omega)]
              have HRF := Lib.hid hrf
              have hpt : ((pn : Int) == 4096) = true := by simp [hp]
              have h128' : (bn : Int) ≤ 128 := by omega
              rw [hst] at H hb0 HD0 HR0
              clear hrf hok hst hgo h1 h2 hpre hp h128
              go_enter Try.func20, Try.ntmps20
              go_wp2_with ((with_reducible refine H.out.mono ?_); rintro e w1 ⟨rfl, hb1⟩; have hz : w.heap.size + 1 < w1.heap.size := (by have := hb1.size; simp at this; omega); obtain ⟨r0, r1, r2, r3, rf⟩ := box4 ((hb1.block (w.heap.size + 1) (by first | (simp; done) | (simp; omega) | omega)).trans HR0.out); obtain ⟨d0, d1, d2, d3, df⟩ := box4 ((hb1.block (w.heap.size) (by first | (simp; done) | (simp; omega) | omega)).trans HD0.out))
              have hb2 := hb0.trans (hb1.mono (by simp; omega))
              refine bodyPost_ret (v := .tuple #[.agg #[.slice none 0 0, .slice none 0 0, .int .i64 0, .bool false], .int .i64 2]) (by simp [results, Try.results20, go_sem, r0, r1, r2, r3]) rfl ?_
              exact RetDisk.zero HRF.out (by (repeat (first | (with_reducible assumption) | exact Below.refl _ _ | refine Below.setCell ?_ (by first | (simp; done) | (simp; omega) | omega) _ | refine Below.alloc ?_ (by first | (simp; done) | (simp; omega) | omega) _ | refine Below.drew ?_ | refine below_drewN ?_ _)))

end Go.Proofs.Ytckcdokfhdckhaa
