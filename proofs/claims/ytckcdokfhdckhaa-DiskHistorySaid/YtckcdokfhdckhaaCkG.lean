/- The walks of slices.Backward, disk.Read and the reference's Read. -/
import Derived.Test.YtckcdokfhdckhaaRows
import Derived.Test.YtckcdokfhdckhaaDisk1
import Derived.RangeFuncNested
import Derived.RangeFuncBound
import Derived.RangeFuncCalls
import Derived.RangeFuncLeaves
import Derived.Shelf.Abstract
import Derived.Shelf.RegionOpen
import Derived.WalkKit
import Derived.OwnWalkIn
import Derived.TacticsInMore
import Derived.LoopNIn
import Derived.LoopIn
import Derived.WalkLawsBesides
import Derived.WalkSpells
import Derived.Outline
import Derived.Lib.Hide
import Derived.Deep.Slices
namespace Go.Proofs.Ytckcdokfhdckhaa
open Go.RowKit Go.Shelf Go.Kx Go.Deep
attribute [local go_sem] Oper.semAt_some

/-- The indices from n - 1 down to m. -/
def down (n m : Nat) : List Nat := ((List.range n).drop m).reverse
theorem down_step {n m : Nat} (h : m < n) : down n m = down n (m + 1) ++ [m] := by
  unfold down
  rw [List.drop_eq_getElem_cons (by simpa using h)]
  simp
theorem down_top (n : Nat) : down n n = [] := by simp [down]
theorem down_length (n m : Nat) : (down n m).length = n - m := by simp [down]

/-- The cells of the writes of a slice, by index: the number, and the slice of the bytes. -/
def wrEnc (f : Nat → Int) (A : Nat → Option Addr) (N C : Nat → Nat) (x : Nat) : Array Value := #[.int .i64 (x : Int), .agg #[.int .i64 (f x), .slice (A x) (N x) (C x)]]

set_option maxRecDepth 100000 in
set_option maxHeartbeats 2000000 in
theorem backW1_in (n : Nat) (hn : 1 ≤ n) (l Bs n₀ len cap : Nat) (a : Option Addr) (f : Nat → Int) (A : Nat → Option Addr) (N C : Nat → Nat) (hreach : len ≤ 140737488355328) (J Jx : List Nat → World → Prop)
    (hY : ∀ pre x W, J pre W → pre.length < len → YieldAt Fence.wide (n - 1) Try.prog l (wrEnc f A N C x) W fun e W' =>
      (e = .returned (.bool true) ∧ J (pre ++ [x]) W' ∧ Below n₀ W W') ∨ (e = .returned (.bool false) ∧ Jx (pre ++ [x]) W'))
    (W : World) (hBs : ∀ W', Below n₀ W W' → W'.cell? ⟨Bs, 0, none⟩ = some (.slice a len cap))
    (hc : ∀ k, k < len → ∃ b off, a = some ⟨b, off, none⟩ ∧ b < n₀ ∧ W.cell? ⟨b, off + k * 2, none⟩ = some (.int .i64 (f k)) ∧ W.cell? ⟨b, off + k * 2 + 1, none⟩ = some (.slice (A k) (N k) (C k))) (h0 : J [] W) :
    CallsIn Fence.wide n Try.prog 45 #[.func (.yield l) #[] #[], .pointer (some ⟨Bs, 0, none⟩)] W fun e W' => (∃ v, e = .returned v) ∧
      ((∃ ys, ys = down len 0 ∧ J ys W') ∨ (∃ pre, (∃ k, k < len ∧ pre = down len k) ∧ Jx pre W')) := by
  refine callsIn_of_wp Try.func45 rfl trivial ?_ rfl
  simp only [Try.ntmps45, List.size_toArray, List.length_cons, List.length_nil, Nat.reduceAdd, Nat.reduceSub, Array.replicate_succ, Array.replicate_zero, List.push_toArray, List.append_toArray, List.nil_append, List.cons_append]
  have hBs0 := hBs W (Below.refl _ _)
  gi_wp2
  gi_loopw [3] (fun i wr => ∃ m : Nat, m ≤ len ∧ i = .int .i64 ((m : Int) - 1) ∧ J (down len m) wr ∧ Below n₀ W wr) (fun i _ => (intOf i + 1).toNat)
  case atStart => exact ⟨len, Nat.le_refl _, rfl, by rw [down_top]; exact h0, Below.refl _ _⟩
  case round =>
    obtain ⟨m, hm, rfl, hJs, hnx⟩ := hrel
    have hBsr := hBs wr hnx
    clear hBs0
    cases m with
    | zero =>
      gi_wp2
      go_end0
      exact ⟨⟨_, rfl⟩, .inl ⟨_, rfl, hJs⟩⟩
    | succ m =>
      have ei : (((m + 1 : Nat) : Int) - 1) = (m : Int) := by omega
      obtain ⟨b, off, rfl, hb, hc0, hc1⟩ := hc m (by omega)
      rw [← hnx.cell (by simpa using hb)] at hc0 hc1
      obtain ⟨fn, tmps, assign, body, hy, hR⟩ := hY _ m wr hJs (by rw [down_length]; omega)
      dsimp only [wrEnc] at hy
      have hR' := Lib.hid hR
      have hJ' := Lib.hid hJs
      clear hR hJs hY hBs
      rw [ei]
      clear ei
      gi_wp2
      refine hR'.out.mono ?_
      rintro e W3 (⟨rfl, hJ3, hk3⟩ | ⟨rfl, hJx3⟩)
      · have HJ3 := Lib.hid hJ3
        clear hJ3
        gi_wp2
        go_roundw
        case rel => exact ⟨m, by omega, by go_num, by rw [down_step (by omega)]; exact HJ3.out, hnx.trans hk3⟩
        case measure => first | (simp [intOf]; done) | (simp [intOf]; omega)
      · have HJ3 := Lib.hid hJx3
        clear hJx3
        gi_wp2
        refine bodyPost_ret (results_none rfl _ _ _) rfl ?_
        exact ⟨⟨_, rfl⟩, .inr ⟨down len m, ⟨m, by omega, rfl⟩, by rw [down_step (by omega)]; exact HJ3.out⟩⟩

theorem backW_any (a : Option Addr) (len cap : Nat) (w : World) :
    Calls Try.prog 39 #[.slice a len cap] w fun e w' => e = .returned (.func (.func 45) #[] #[.pointer (some ⟨w.heap.size, 0, none⟩)]) ∧ w' = w.alloc (.cells #[.slice a len cap] 23) := by
  go_enter Try.func39, Try.ntmps39
  go_wp2
  go_ret
  exact ⟨rfl, rfl⟩

theorem backW_stops (n : Nat) (hn : 1 ≤ n) (Bs n₀ len cap : Nat) (a : Option Addr) (f : Nat → Int) (A : Nat → Option Addr) (N C : Nat → Nat) (hreach : len ≤ 140737488355328) (w : World) (hn₀ : n₀ ≤ w.heap.size) (hB : Bs < n₀)
    (hBs : w.cell? ⟨Bs, 0, none⟩ = some (.slice a len cap))
    (hc : ∀ k, k < len → ∃ b off, a = some ⟨b, off, none⟩ ∧ b < n₀ ∧ w.cell? ⟨b, off + k * 2, none⟩ = some (.int .i64 (f k)) ∧ w.cell? ⟨b, off + k * 2 + 1, none⟩ = some (.slice (A k) (N k) (C k))) :
    SeqStopsK Fence.wide n Try.prog 45 #[.pointer (some ⟨Bs, 0, none⟩)] (wrEnc f A N C) (Below n₀) (fun ys => ys = down len 0) (fun pre => ∃ k, k < len ∧ pre = down len k) len w := fun l J Jx W hW _ _ hY h0 => by
  have hW' := hW.mono hn₀
  refine backW1_in n hn l Bs n₀ len cap a f A N C hreach J Jx hY W (fun W' h => ?_) (fun k hk => ?_) h0
  · rw [h.cell (p := ⟨Bs, 0, none⟩) hB, hW'.cell (p := ⟨Bs, 0, none⟩) hB]; exact hBs
  · obtain ⟨b, off, rfl, hb, h1, h2⟩ := hc k hk
    exact ⟨b, off, rfl, hb, by rw [hW'.cell (by simpa using hb)]; exact h1, by rw [hW'.cell (by simpa using hb)]; exact h2⟩

/-- What a read finds: the data of the last write at a place, or what lay there. -/
def lastAt (pend : List Wr) (at_ : Int) (b : Bytes) : Bytes := pend.foldl (fun b x => if x.at_ = at_ then x.data else b) b
def readF (d : Disk) (at_ : Int) : Bytes × Int :=
  if (Disk.ok d && !d.stopped) && (decide (0 ≤ at_) && decide (at_ < (d.secs.length : Int))) then (lastAt d.pend at_ (d.secs.getD at_.toNat []), 0) else ([], 40)

theorem lastAt_hit {pend : List Wr} {at_ : Int} {b : Bytes} {k : Nat} (hk : k < pend.length) (h : pend[k].at_ = at_) (hn : ∀ i (hi : i < pend.length), k < i → pend[i].at_ ≠ at_) : lastAt pend at_ b = pend[k].data := by
  induction pend generalizing b k with
  | nil => simp at hk
  | cons x r ih =>
    simp only [lastAt, List.foldl_cons]
    cases k with
    | zero =>
      simp only [List.getElem_cons_zero] at h ⊢
      rw [if_pos h]
      have : ∀ (r : List Wr) (b : Bytes), (∀ i (hi : i < r.length), r[i].at_ ≠ at_) → r.foldl (fun b x => if x.at_ = at_ then x.data else b) b = b := by
        intro r
        induction r with
        | nil => intro b _; rfl
        | cons y r ih2 =>
          intro b h
          have h0 := h 0 (by simp)
          simp only [List.getElem_cons_zero] at h0
          simp only [List.foldl_cons]
          rw [if_neg h0]
          exact ih2 b fun i hi => by have := h (i + 1) (by simpa using hi); simpa using this
      exact this r _ fun i hi => by have := hn (i + 1) (by simpa using hi) (by omega); simpa using this
    | succ k =>
      simp only [List.getElem_cons_succ] at h ⊢
      exact ih (by simpa using hk) h fun i hi hki => by have := hn (i + 1) (by simpa using hi) (by omega); simpa using this

theorem lastAt_miss {pend : List Wr} {at_ : Int} {b : Bytes} (hn : ∀ i (hi : i < pend.length), pend[i].at_ ≠ at_) : lastAt pend at_ b = b := by
  induction pend generalizing b with
  | nil => rfl
  | cons x r ih =>
    have h0 := hn 0 (by simp)
    simp only [List.getElem_cons_zero] at h0
    simp only [lastAt, List.foldl_cons]
    rw [if_neg h0]
    exact ih fun i hi => by have := hn (i + 1) (by simpa using hi); simpa using this

/-- What a function hands back that returns bytes and an error. -/
def RetBytes (S : Nat → Prop) (w : World) (r : Bytes × Int) (e : Ending) (w' : World) : Prop :=
  ∃ a n c, e = .returned (.tuple #[.slice a n c, .int .i64 r.2]) ∧ Sl eByte (Up S w) w' a n c r.1 ∧ Below w.heap.size w w'

theorem RetBytes.of {S : Nat → Prop} {w w' : World} {err : Int} {r : Bytes × Int} {b : Bytes} {a : Option Addr} {n c : Nat} (hr : r = (b, err)) (hb : Below w.heap.size w w') (h : Below w.heap.size w w' → Sl eByte (Up S w) w' a n c b) :
    RetBytes S w r (.returned (.tuple #[.slice a n c, .int .i64 err])) w' := by
  subst hr
  exact ⟨a, n, c, rfl, h hb, hb⟩

set_option maxRecDepth 100000 in
set_option maxHeartbeats 2000000 in
theorem read_any (S : Nat → Prop) (w : World) (sa : Option Addr) (sn sc : Nat) (pa : Option Addr) (pn pc : Nat) (D : Disk) (at_ : Int) (h : DiskAt S w sa sn sc pa pn pc D) :
    Calls Try.prog 21 #[.agg #[.slice sa sn sc, .slice pa pn pc, .int .i64 D.left, .bool D.stopped], .int .i64 at_] w (RetBytes S w (readF D at_)) := by
  have hb0 : Below w.heap.size w ((((w.alloc (.cells #[.slice sa sn sc, .slice pa pn pc, .int .i64 D.left, .bool D.stopped] 25)).alloc (.cells #[.int .i64 at_] 3)).alloc (.cells #[.slice none 0 0] 35)).alloc (.cells #[.int .i64 0] 28)) := by (repeat (first | (with_reducible assumption) | exact Below.refl _ _ | refine Below.setCell ?_ (by first | (simp; done) | (simp; omega) | omega) _ | refine Below.alloc ?_ (by first | (simp; done) | (simp; omega) | omega) _ | refine Below.drew ?_ | refine below_drewN ?_ _))
  have H := Lib.hid (runs_any S _ sa sn sc pa pn pc D.left D.stopped D.secs D.pend (h.secs.below hb0) (h.pend.below hb0))
  have HD := Lib.hid h
  have hls := Lib.hid h.secs.length
  have hlp := Lib.hid h.pend.length
  clear h
  refine (callsIn_wide (n := 5)).1 ?_
  refine callsIn_of_wp_marks Try.func21 rfl trivial ?_ rfl
  simp only [Try.ntmps21, List.size_toArray, List.length_cons, List.length_nil, Nat.reduceAdd, Nat.reduceSub, Array.replicate_succ, Array.replicate_zero, List.push_toArray, List.append_toArray, List.nil_append, List.cons_append]
  cases hok : Disk.ok D && !D.stopped with
  | false =>
    rw [show (Disk.ok { secs := D.secs, pend := D.pend, left := D.left, stopped := D.stopped } && !D.stopped) = false from hok] at H
    have hrf : readF D at_ = ([], 40) := by simp only [readF, hok]; rfl
    have HRF := Lib.hid hrf
    clear hrf hok
    gi_wp2_with (refine ⟨trivial, ?_⟩; gi_at_call 35; (with_reducible refine (callsIn_wide.2 H.out).mono ?_); rintro e w1 ⟨rfl, hb1⟩; obtain ⟨hcc, hff⟩ := bcell hb1; have hz : w.heap.size + 1 + 1 + 1 < w1.heap.size := (by have := hb1.size; simp at this; omega); have hA4 : w1.cell? ⟨w.heap.size + 1 + 1, 0, none⟩ = some (.slice none 0 0) := (hcc _ _ (by first | (simp; done) | (simp; omega) | omega)).trans (by simp [go_sem]); have hA5 : w1.cell? ⟨w.heap.size + 1 + 1 + 1, 0, none⟩ = some (.int .i64 0) := (hcc _ _ (by first | (simp; done) | (simp; omega) | omega)).trans (by simp [go_sem]))
    have hb2 := hb0.trans (hb1.mono (by simp; omega))
    refine ⟨trivial, ?_⟩
    gi_wp2
    refine ⟨.tuple #[.slice none 0 0, .int .i64 40], by simp [results, Try.results21, go_sem, hA4, hA5], RetBytes.of HRF.out (by (repeat (first | (with_reducible assumption) | exact Below.refl _ _ | refine Below.setCell ?_ (by first | (simp; done) | (simp; omega) | omega) _ | refine Below.alloc ?_ (by first | (simp; done) | (simp; omega) | omega) _ | refine Below.drew ?_ | refine below_drewN ?_ _))) fun _ => Sl.zero _ _ _⟩
  | true =>
    rw [show (Disk.ok { secs := D.secs, pend := D.pend, left := D.left, stopped := D.stopped } && !D.stopped) = true from hok] at H
    have hp0 := has_any (w := (w.alloc (.cells #[.slice sa sn sc, .slice pa pn pc, .int .i64 D.left, .bool D.stopped] 25))) sa sn sc pa pn pc D.left D.stopped at_
    clear hp0
    by_cases hin : 0 ≤ at_ ∧ at_ < (sn : Int)
    · obtain ⟨hi0, hi1⟩ := hin
      obtain ⟨at', rfl⟩ := Int.eq_ofNat_of_zero_le hi0
      have hrf : readF D at' = (lastAt D.pend at' (D.secs.getD at' []), 0) := by
        have e := hls.out
        simp only [readF, hok, e]
        simp [show at' < sn by omega]
      have HRF := Lib.hid hrf
      clear hrf hok hi0
      have hdd : (decide ((0 : Int) ≤ at') && decide ((at' : Int) < sn)) = true := by simp; omega
      gi_wp2_with (first | (refine ⟨trivial, ?_⟩; gi_at_call 35; (with_reducible refine (callsIn_wide.2 H.out).mono ?_); rintro e w1 ⟨rfl, hb1⟩; obtain ⟨hcc, hff⟩ := bcell hb1; have hz : w.heap.size + 1 + 1 + 1 < w1.heap.size := (by have := hb1.size; simp at this; omega); have hz0 : w.heap.size < w1.heap.size := (by omega); have hz1 : w.heap.size + 1 < w1.heap.size := (by omega); have hz2 : w.heap.size + 1 + 1 < w1.heap.size := (by omega)) | (refine ⟨trivial, ?_⟩; gi_at_call 36; refine (callsIn_wide.2 (has_any _ _ _ _ _ _ _ _ _ _)).mono ?_; rw [hdd]; rintro e w2 ⟨rfl, hb3⟩; obtain ⟨hcc2, hff2⟩ := bcell hb3; have hy : w1.heap.size ≤ w2.heap.size := hb3.size) | (refine ⟨trivial, ?_⟩; gi_at_call 39; refine (callsIn_wide.2 (backW_any _ _ _ _)).mono ?_; rintro e w3 ⟨rfl, rfl⟩))
      have hb2 : Below w.heap.size w w2 := (hb0.trans (hb1.mono (by simp; omega))).trans (hb3.mono (by omega))
      have hzz : w.heap.size + 1 + 1 + 1 < w2.heap.size := by omega
      have hx0 : w2.cell? ⟨w.heap.size, 0, none⟩ = some (.slice sa sn sc) := by rw [hcc2 _ _ hz0, hcc _ _ (by first | (simp; done) | (simp; omega) | omega)]; simp [go_sem]
      have hx1 : w2.cell? ⟨w.heap.size + 1, 0, none⟩ = some (.int .i64 at') := by rw [hcc2 _ _ hz1, hcc _ _ (by first | (simp; done) | (simp; omega) | omega)]; simp [go_sem]
      have hx2 : w2.cell? ⟨w.heap.size + 1 + 1, 0, none⟩ = some (.slice none 0 0) := by rw [hcc2 _ _ hz2, hcc _ _ (by first | (simp; done) | (simp; omega) | omega)]; simp [go_sem]
      have hx3 : w2.cell? ⟨w.heap.size + 1 + 1 + 1, 0, none⟩ = some (.int .i64 0) := by rw [hcc2 _ _ hz, hcc _ _ (by first | (simp; done) | (simp; omega) | omega)]; simp [go_sem]
      have hf2 : w2.frozen? ⟨w.heap.size + 1 + 1, 0, none⟩ = false := by rw [hff2 _ _ hz2, hff _ _ (by first | (simp; done) | (simp; omega) | omega)]; simp [go_sem]
      have hf3 : w2.frozen? ⟨w.heap.size + 1 + 1 + 1, 0, none⟩ = false := by rw [hff2 _ _ hz, hff _ _ (by first | (simp; done) | (simp; omega) | omega)]; simp [go_sem]
      clear hcc hff hcc2 hff2 hb1 hb3 hb0 H hz hz0 hz1 hz2 hy
      have hch := choose_lt (α := Option Addr × Nat × Nat) (n := pn) (p := fun k x => ∃ b off, pa = some ⟨b, off, none⟩ ∧ b < w.heap.size ∧ w.cell? ⟨b, off + k * 2, none⟩ = some (.int .i64 (((D.pend[k]?).map Wr.at_).getD 0)) ∧
        w.cell? ⟨b, off + k * 2 + 1, none⟩ = some (.slice x.1 x.2.1 x.2.2) ∧ ∃ y, D.pend[k]? = some y ∧ Sl eByte S w x.1 x.2.1 x.2.2 y.data) (fun k hk => by
          obtain ⟨b, off, oa, n1, c1, h1, h2, h3, h4, h5, h6, h7, h8⟩ := Sl.wr HD.out.pend (Below.refl _ w) k (by have := hlp.out; omega)
          have hk' : k < D.pend.length := by have := hlp.out; omega
          exact ⟨(oa, n1, c1), b, off, h1, h2, by simpa [List.getElem?_eq_getElem hk'] using h4, h5, _, List.getElem?_eq_getElem hk', h6⟩)
      obtain ⟨X, hX⟩ := hch
      have HX := Lib.hid hX
      clear hX
      obtain ⟨f, hf⟩ : ∃ f : Nat → Int, f = fun k => ((D.pend[k]?).map Wr.at_).getD 0 := ⟨_, rfl⟩
      have Hf := Lib.hid hf
      obtain ⟨A, hA⟩ : ∃ A : Nat → Option Addr, A = fun k => (X k).1 := ⟨_, rfl⟩
      obtain ⟨N, hN⟩ : ∃ N : Nat → Nat, N = fun k => (X k).2.1 := ⟨_, rfl⟩
      obtain ⟨C, hC⟩ : ∃ C : Nat → Nat, C = fun k => (X k).2.2 := ⟨_, rfl⟩
      have HA := Lib.hid hA
      have HN := Lib.hid hN
      have HC := Lib.hid hC
      obtain ⟨W3, hW3⟩ : ∃ W3, W3 = w2.alloc (.cells #[.slice pa pn pc] 23) := ⟨_, rfl⟩
      have hW3b : Below w2.heap.size w2 W3 := by rw [hW3]; (repeat (first | (with_reducible assumption) | exact Below.refl _ _ | refine Below.setCell ?_ (by first | (simp; done) | (simp; omega) | omega) _ | refine Below.alloc ?_ (by first | (simp; done) | (simp; omega) | omega) _ | refine Below.drew ?_ | refine below_drewN ?_ _))
      have hB3 : Below w.heap.size w W3 := hb2.trans (hW3b.mono hb2.size)
      have hcn : W3.cell? ⟨w2.heap.size, 0, none⟩ = some (.slice pa pn pc) := by rw [hW3]; simp [go_sem]
      have hsz : W3.heap.size = w2.heap.size + 1 := by rw [hW3]; simp
      have hpn : pn ≤ 140737488355328 := by have := HD.out.pend.bytes; simp [eWr] at this; omega
      have hy0 := (hW3b.cell (p := ⟨w.heap.size, 0, none⟩) (by show w.heap.size < _; omega)).trans hx0
      have hy1 := (hW3b.cell (p := ⟨w.heap.size + 1, 0, none⟩) (by show w.heap.size + 1 < _; omega)).trans hx1
      have hy2 := (hW3b.cell (p := ⟨w.heap.size + 1 + 1, 0, none⟩) (by show w.heap.size + 1 + 1 < _; omega)).trans hx2
      have hy3 := (hW3b.cell (p := ⟨w.heap.size + 1 + 1 + 1, 0, none⟩) (by show w.heap.size + 1 + 1 + 1 < _; omega)).trans hx3
      have hg2 := (hW3b.frozen (p := ⟨w.heap.size + 1 + 1, 0, none⟩) (by show w.heap.size + 1 + 1 < _; omega)).trans hf2
      have hg3 := (hW3b.frozen (p := ⟨w.heap.size + 1 + 1 + 1, 0, none⟩) (by show w.heap.size + 1 + 1 + 1 < _; omega)).trans hf3
      rw [← hW3]
      clear hx0 hx1 hx2 hx3 hf2 hf3 hW3 hW3b hf hA hN hC
      have hseq := backW_stops 4 (by omega) w2.heap.size (w2.heap.size + 1) pn pc pa f A N C hpn W3 (by omega) (by omega) hcn (fun k hk => by
        obtain ⟨b, off, h1, h2, h3, h4, h5⟩ := HX.out k hk
        have hbb := hB3
        exact ⟨b, off, h1, by omega, by rw [hB3.cell (by simpa using h2), Hf.out]; exact h3, by rw [hB3.cell (by simpa using h2), HA.out, HN.out, HC.out]; exact h4⟩)
      refine wpIn_rangeFunc_ownH rfl (by omega) (gf := 45) (lb := #[.pointer (some ⟨w2.heap.size, 0, none⟩)]) rfl trivial (entersOf Try.func45 (by kernel_rfl) rfl) hseq
        belowK_t (belowK_b (by omega)) (Below.refl _ _) (fun _ => rfl)
        (fun pre W => (∀ i ∈ pre, f i ≠ at') ∧ Below (w2.heap.size + 1) W3 W)
        (fun c pre W => (c = .ret ∧ ∃ ini k, pre = ini ++ [k] ∧ (∀ i ∈ ini, f i ≠ at') ∧ f k = at' ∧ W.cell? ⟨w.heap.size + 1 + 1, 0, none⟩ = some (.slice (A k) (N k) (C k)) ∧ W.cell? ⟨w.heap.size + 1 + 1 + 1, 0, none⟩ = some (.int .i64 0)) ∧ Below w.heap.size w W)
        (OwnFrom.and (Own.from (fun s A B row hs hg hr => hs) _) (ownFrom_below (by omega) (by omega)))
        (fun c => OwnFrom.and (Own.from (fun s A B row hs hg hr => by
          obtain ⟨hc, ini, k, e1, e2, e3, e4, e5⟩ := hs
          exact ⟨hc, ini, k, e1, e2, e3, cell_kept e4 hg hr, cell_kept e5 hg hr⟩) _) (ownFrom_below (Nat.le_refl _) (by omega)))
        ⟨by simp, Below.refl _ _⟩
        (fun x a' W => ∃ Bx, w2.heap.size < Bx ∧ W.frozen? ⟨Bx, 0, none⟩ = false ∧ W.cell? ⟨Bx, 0, none⟩ = some (.int .i64 (f x)) ∧ W.cell? ⟨Bx, 1, none⟩ = some (.slice (A x) (N x) (C x)) ∧ a' = { tmps := #[.agg #[.slice sa sn sc, .slice pa pn pc, .int .i64 D.left, .bool D.stopped], .int .i64 at', .pointer (some ⟨w.heap.size, 0, none⟩), .pointer (some ⟨w.heap.size + 1, 0, none⟩), .pointer (some ⟨w.heap.size + 1 + 1, 0, none⟩), .pointer (some ⟨w.heap.size + 1 + 1 + 1, 0, none⟩), undef, .pointer (some ⟨Bx, 0, none⟩), .agg #[.slice sa sn sc, .slice pa pn pc, .int .i64 D.left, .bool D.stopped], .bool true, .bool false, .bool false, .agg #[.slice sa sn sc, .slice pa pn pc, .int .i64 D.left, .bool D.stopped], .int .i64 at', .bool true, .bool false, .bool false, .pointer (some ⟨w.heap.size, 1, none⟩), .slice pa pn pc, .func (.func 45) #[] #[.pointer (some ⟨w2.heap.size, 0, none⟩)], .int .i64 (x : Int), .agg #[.int .i64 (f x), .slice (A x) (N x) (C x)], undef, undef, undef, undef, undef, undef, undef, undef, undef, undef, undef], defers := [] })
        (fun x a' s A B row hs hg hr => by
          obtain ⟨Bx, h1, h5, h2, h3, h4⟩ := hs
          exact ⟨Bx, h1, (frozen_kept h2 hg (fun r e => (hr r e).2)).trans h5, cell_kept h2 hg (fun r e => (hr r e).2), cell_kept h3 hg (fun r e => (hr r e).2), h4⟩) ?assign ?body ?done ?stop
      case assign =>
        rintro l pre x W K ⟨hi, hB⟩ hK
        have hK' := Lib.hid hK
        have hi' := Lib.hid hi
        clear hK hi hseq
        dsimp only [wrEnc]
        have hWs := hB.size
        gi_wp2
        refine hK'.out _ _ ?_ ?_ ?_ ?_
        · exact (KeepsOthers.alloc _ _).from _
        · exact (Below.refl _ _).alloc (by omega) _
        · exact ⟨hi'.out, hB.alloc (by omega) _⟩
        · exact ⟨W.heap.size, by omega, by simp [go_sem], by simp [go_sem], by simp [go_sem], rfl⟩
      case body =>
        rintro l pre x a' W hl ⟨rr, hrr⟩ ⟨hne, hB⟩ ⟨Bx, hBx, hbf, hb0, hb1, rfl⟩ hlen
        have HNE := Lib.hid hne
        have HRR := Lib.hid hrr
        clear hne hrr hseq
        have h1 := (hB.cell (p := ⟨w.heap.size + 1, 0, none⟩) (by show w.heap.size + 1 < _; omega)).trans hy1
        have h2 := (hB.cell (p := ⟨w.heap.size + 1 + 1, 0, none⟩) (by show w.heap.size + 1 + 1 < _; omega)).trans hy2
        have h3 := (hB.cell (p := ⟨w.heap.size + 1 + 1 + 1, 0, none⟩) (by show w.heap.size + 1 + 1 + 1 < _; omega)).trans hy3
        have g2 := (hB.frozen (p := ⟨w.heap.size + 1 + 1, 0, none⟩) (by show w.heap.size + 1 + 1 < _; omega)).trans hg2
        have g3 := (hB.frozen (p := ⟨w.heap.size + 1 + 1 + 1, 0, none⟩) (by show w.heap.size + 1 + 1 + 1 < _; omega)).trans hg3
        have n2 : Bx ≠ w.heap.size + 1 + 1 := by omega
        have n3 : Bx ≠ w.heap.size + 1 + 1 + 1 := by omega
        cases hfx : decide (f x = (at' : Int)) with
        | true =>
          have hfe : f x = at' := of_decide_eq_true hfx
          have htt : ((f x : Int) == at') = true := by simp [hfe]
          have HFE := Lib.hid hfe
          clear hfe hfx
          gi_wp2
          refine ⟨((KeepsOthers.setCell _ _ _).trans (KeepsOthers.setCell _ _ _)).from _, ⟨rfl, pre, x, rfl, HNE.out, HFE.out, ?_, ?_⟩, ?_⟩
          · simp [go_sem, h2]
          · simp [go_sem, h3]
          · have hBw : Below w.heap.size w W := hB3.trans (hB.mono (by omega))
            (repeat (first | (with_reducible assumption) | exact Below.refl _ _ | refine Below.setCell ?_ (by first | (simp; done) | (simp; omega) | omega) _ | refine Below.alloc ?_ (by first | (simp; done) | (simp; omega) | omega) _ | refine Below.drew ?_ | refine below_drewN ?_ _))
        | false =>
          have hfe : f x ≠ at' := of_decide_eq_false hfx
          have htt : ((f x : Int) == at') = false := by simp [hfe]
          have HFE := Lib.hid hfe
          clear hfe hfx
          gi_wp2
          exact ⟨KeepsFrom.refl _ _, Below.refl _ _, fun i hi => (List.mem_append.1 hi).elim (HNE.out i) (fun e => by simp at e; subst e; exact HFE.out), hB⟩
      case done =>
        rintro Dd ys W hD rfl ⟨hne, hB⟩ hK
        have hBw : Below w.heap.size w W := hB3.trans (hB.mono (by omega))
        have h0 := (hB.cell (p := ⟨w.heap.size, 0, none⟩) (by show w.heap.size < _; omega)).trans hy0
        have h1 := (hB.cell (p := ⟨w.heap.size + 1, 0, none⟩) (by show w.heap.size + 1 < _; omega)).trans hy1
        have h2 := (hB.cell (p := ⟨w.heap.size + 1 + 1, 0, none⟩) (by show w.heap.size + 1 + 1 < _; omega)).trans hy2
        have h3 := (hB.cell (p := ⟨w.heap.size + 1 + 1 + 1, 0, none⟩) (by show w.heap.size + 1 + 1 + 1 < _; omega)).trans hy3
        have g2 := (hB.frozen (p := ⟨w.heap.size + 1 + 1, 0, none⟩) (by show w.heap.size + 1 + 1 < _; omega)).trans hg2
        have g3 := (hB.frozen (p := ⟨w.heap.size + 1 + 1 + 1, 0, none⟩) (by show w.heap.size + 1 + 1 + 1 < _; omega)).trans hg3
        have HNE := Lib.hid hne
        have HK := Lib.hid hK
        clear hne hK hseq
        have hlk : at' < D.secs.length := by have := hls.out; omega
        obtain ⟨b, off, oa, n1, c1, rfl, hb, hS, hc0, hx⟩ := Sl.row HD.out.secs hBw at' hlk
        have HXX := Lib.hid hx
        clear hx
        have e1 : w.heap.size + 1 + 1 ≠ b := by omega
        have e2 : w.heap.size + 1 + 1 + 1 ≠ b := by omega
        gi_wp2
        have hK' := (((KeepsOthers.setCell W ⟨w.heap.size + 1 + 1, 0, none⟩ (.slice oa n1 c1))).trans (KeepsOthers.setCell _ ⟨w.heap.size + 1 + 1 + 1, 0, none⟩ (.int .i64 0))).same Dd _ HK.out rfl
        refine ⟨by simp, .inl ⟨_, _, rfl, run_takeDeferred hK', ?_⟩⟩
        have hd2 : ((W.setCell ⟨w.heap.size + 1 + 1, 0, none⟩ (.slice oa n1 c1)).setCell ⟨w.heap.size + 1 + 1 + 1, 0, none⟩ (.int .i64 0)).cell? ⟨w.heap.size + 1 + 1, 0, none⟩ = some (.slice oa n1 c1) := by simp [go_sem, h2]
        have hd3 : ((W.setCell ⟨w.heap.size + 1 + 1, 0, none⟩ (.slice oa n1 c1)).setCell ⟨w.heap.size + 1 + 1 + 1, 0, none⟩ (.int .i64 0)).cell? ⟨w.heap.size + 1 + 1 + 1, 0, none⟩ = some (.int .i64 0) := by simp [go_sem, h3]
        have hc4 := cell_kept hd2 (grownBy_putObj' _ Dd (.deferred none)) (fun r e => by cases e; exact ⟨_, hK', rfl⟩)
        have hc5 := cell_kept hd3 (grownBy_putObj' _ Dd (.deferred none)) (fun r e => by cases e; exact ⟨_, hK', rfl⟩)
        have hBf : Below w.heap.size w ((W.setCell ⟨w.heap.size + 1 + 1, 0, none⟩ (.slice oa n1 c1)).setCell ⟨w.heap.size + 1 + 1 + 1, 0, none⟩ (.int .i64 0)) := by (repeat (first | (with_reducible assumption) | exact Below.refl _ _ | refine Below.setCell ?_ (by first | (simp; done) | (simp; omega) | omega) _ | refine Below.alloc ?_ (by first | (simp; done) | (simp; omega) | omega) _ | refine Below.drew ?_ | refine below_drewN ?_ _))
        refine ⟨.tuple #[.slice oa n1 c1, .int .i64 0], by simp [results, Try.results21, go_sem, hc4, hc5], RetBytes.of (b := D.secs[at']) ?_ (hBf.trans (belowK_b (w := w) (Nat.le_refl _) _ Dd _ _ (by omega) hK' rfl rfl)) fun hb => HXX.out.mono (keepUp_of_below hb)⟩
        rw [HRF.out, lastAt_miss, List.getD_eq_getElem?_getD, List.getElem?_eq_getElem hlk]
        · rfl
        · intro i hi he
          refine HNE.out i ?_ ?_
          · have hip : i < pn := by have := hlp.out; omega
            simp [down, hip]
          · rw [Hf.out]; simp [List.getElem?_eq_getElem hi, he]
      case stop =>
        rintro Dd c pre W hD ⟨k, hk, rfl⟩ ⟨⟨rfl, ini, k', e1, e2, e3, h2, h3⟩, hB⟩ hK
        have HK := Lib.hid hK
        clear hseq
        rw [down_step hk] at e1
        obtain ⟨rfl, e5⟩ := List.append_inj' e1 rfl
        obtain rfl : k = k' := by simpa using e5
        clear e1 e5
        have E2 := Lib.hid e2
        have E3 := Lib.hid e3
        clear e2 e3 hK
        gi_wp2
        refine ⟨by simp, .inl ⟨_, _, rfl, run_takeDeferred HK.out, ?_⟩⟩
        have hc4 := cell_kept h2 (grownBy_putObj' _ Dd (.deferred none)) (fun r e => by cases e; exact ⟨_, HK.out, rfl⟩)
        have hc5 := cell_kept h3 (grownBy_putObj' _ Dd (.deferred none)) (fun r e => by cases e; exact ⟨_, HK.out, rfl⟩)
        obtain ⟨b, off, q1, q2, q3, q4, y, q5, q6⟩ := HX.out k hk
        refine ⟨.tuple #[.slice (A k) (N k) (C k), .int .i64 0], by simp [results, Try.results21, go_sem, hc4, hc5], RetBytes.of (b := y.data) ?_ (hB.trans (belowK_b (w := w) (Nat.le_refl _) _ Dd _ _ (by omega) HK.out rfl rfl)) fun hb => by rw [HA.out, HN.out, HC.out]; exact q6.mono (keepUp_of_below hb)⟩
        have hkl : k < D.pend.length := by have := hlp.out; omega
        obtain rfl : D.pend[k] = y := by rw [List.getElem?_eq_getElem hkl] at q5; exact Option.some.inj q5
        rw [HRF.out, lastAt_hit hkl]
        · have := E3.out
          rw [Hf.out] at this
          simpa [List.getElem?_eq_getElem hkl] using this
        · intro i hi hki he
          have hip : i < pn := by have := hlp.out; omega
          refine E2.out i ?_ ?_
          · simp only [down, List.mem_reverse, List.mem_drop_iff_getElem, List.getElem_range]
            exact ⟨i - (k + 1), by simp; omega, by omega⟩
          · rw [Hf.out]; simp [List.getElem?_eq_getElem hi, he]
    · have hrf : readF D at_ = ([], 40) := by
        have e := hls.out
        simp only [readF, hok, e]
        rw [if_neg]
        simp
        omega
      have HRF := Lib.hid hrf
      clear hrf hok
      have hdd : (decide ((0 : Int) ≤ at_) && decide (at_ < (sn : Int))) = false := by simp; omega
      clear hin
      gi_wp2_with (first | (refine ⟨trivial, ?_⟩; gi_at_call 35; (with_reducible refine (callsIn_wide.2 H.out).mono ?_); rintro e w1 ⟨rfl, hb1⟩; obtain ⟨hcc, hff⟩ := bcell hb1; have hz : w.heap.size + 1 + 1 + 1 < w1.heap.size := (by have := hb1.size; simp at this; omega); have hz0 : w.heap.size < w1.heap.size := (by omega); have hz1 : w.heap.size + 1 < w1.heap.size := (by omega); have hz2 : w.heap.size + 1 + 1 < w1.heap.size := (by omega)) | (refine ⟨trivial, ?_⟩; gi_at_call 36; refine (callsIn_wide.2 (has_any _ _ _ _ _ _ _ _ _ _)).mono ?_; rw [hdd]; rintro e w2 ⟨rfl, hb3⟩; obtain ⟨hcc2, hff2⟩ := bcell hb3; have hx2 : w2.cell? ⟨w.heap.size + 1 + 1, 0, none⟩ = some (.slice none 0 0) := (by rw [hcc2 _ _ hz2, hcc _ _ (by first | (simp; done) | (simp; omega) | omega)]; simp [go_sem]); have hx3 : w2.cell? ⟨w.heap.size + 1 + 1 + 1, 0, none⟩ = some (.int .i64 0) := (by rw [hcc2 _ _ hz, hcc _ _ (by first | (simp; done) | (simp; omega) | omega)]; simp [go_sem])))
      have hb2 : Below w.heap.size w w2 := (hb0.trans (hb1.mono (by simp; omega))).trans (hb3.mono (by omega))
      refine ⟨.tuple #[.slice none 0 0, .int .i64 40], by simp [results, Try.results21, go_sem, hx2, hx3], RetBytes.of HRF.out (by (repeat (first | (with_reducible assumption) | exact Below.refl _ _ | refine Below.setCell ?_ (by first | (simp; done) | (simp; omega) | omega) _ | refine Below.alloc ?_ (by first | (simp; done) | (simp; omega) | omega) _ | refine Below.drew ?_ | refine below_drewN ?_ _))) fun _ => Sl.zero _ _ _⟩

set_option maxHeartbeats 1000000 in
theorem rread_any (S : Nat → Prop) (w : World) (sa : Option Addr) (sn sc : Nat) (pa : Option Addr) (pn pc : Nat) (D : Disk) (at_ : Int) (h : DiskAt S w sa sn sc pa pn pc D) :
    Calls Try.prog 22 #[.agg #[.slice sa sn sc, .slice pa pn pc, .int .i64 D.left, .bool D.stopped], .int .i64 at_] w (RetBytes S w (readF D at_)) := by
  have hb0 : Below w.heap.size w (w.alloc (.cells #[.slice sa sn sc, .slice pa pn pc, .int .i64 D.left, .bool D.stopped] 25)) := by (repeat (first | (with_reducible assumption) | exact Below.refl _ _ | refine Below.setCell ?_ (by first | (simp; done) | (simp; omega) | omega) _ | refine Below.alloc ?_ (by first | (simp; done) | (simp; omega) | omega) _ | refine Below.drew ?_ | refine below_drewN ?_ _))
  have H := Lib.hid (rcheck_any S _ sa sn sc pa pn pc D.left D.stopped D.secs D.pend (h.secs.below hb0) (h.pend.below hb0))
  have HD := Lib.hid h
  have hls := Lib.hid h.secs.length
  have hlp := Lib.hid h.pend.length
  have hpn : pn ≤ 140737488355328 := by have := h.pend.bytes; simp [eWr] at this; omega
  clear h
  have hckf : checkF ⟨D.secs, D.pend, D.left, D.stopped⟩ = if Disk.ok D then 0 else 40 := rfl
  rw [hckf] at H
  clear hckf
  cases hok : Disk.ok D with
  | false =>
    have hst : readF D at_ = ([], 40) := by simp only [readF, hok]; rfl
    have HST := Lib.hid hst
    clear hst
    rw [if_neg (by simp [hok])] at H
    clear hok
    go_enter Try.func22, Try.ntmps22
    go_wp2_with ((with_reducible refine H.out.mono ?_); rintro e w1 ⟨rfl, hb1⟩; obtain ⟨hcc, hff⟩ := bcell hb1)
    have hb2 := hb0.trans (hb1.mono (by simp))
    go_ret2
    exact RetBytes.of HST.out (by (repeat (first | (with_reducible assumption) | exact Below.refl _ _ | refine Below.setCell ?_ (by first | (simp; done) | (simp; omega) | omega) _ | refine Below.alloc ?_ (by first | (simp; done) | (simp; omega) | omega) _ | refine Below.drew ?_ | refine below_drewN ?_ _))) fun _ => Sl.zero _ _ _
  | true =>
    rw [if_pos hok] at H
    cases hst : D.stopped with
    | true =>
      have hst' : readF D at_ = ([], 40) := by simp only [readF, hok, hst]; rfl
      have HST := Lib.hid hst'
      rw [hst] at H hb0
      clear hst' hok hst
      go_enter Try.func22, Try.ntmps22
      go_wp2_with ((with_reducible refine H.out.mono ?_); rintro e w1 ⟨rfl, hb1⟩; obtain ⟨hcc, hff⟩ := bcell hb1)
      have hb2 := hb0.trans (hb1.mono (by simp))
      go_ret2
      exact RetBytes.of HST.out (by (repeat (first | (with_reducible assumption) | exact Below.refl _ _ | refine Below.setCell ?_ (by first | (simp; done) | (simp; omega) | omega) _ | refine Below.alloc ?_ (by first | (simp; done) | (simp; omega) | omega) _ | refine Below.drew ?_ | refine below_drewN ?_ _))) fun _ => Sl.zero _ _ _
    | false =>
      by_cases hin : 0 ≤ at_ ∧ at_ < (sn : Int)
      · obtain ⟨hi0, hi1⟩ := hin
        obtain ⟨at', rfl⟩ := Int.eq_ofNat_of_zero_le hi0
        have hlk : at' < D.secs.length := by have := hls.out; omega
        have hst' : readF D at' = (lastAt D.pend at' D.secs[at'], 0) := by
          have e := hls.out
          simp only [readF, hok, hst, e]
          simp [show at' < sn by omega, List.getElem?_eq_getElem hlk]
        have HST := Lib.hid hst'
        rw [hst] at H hb0
        clear hst' hok hst hi0
        obtain ⟨b, off, oa, n1, c1, rfl, hb, hS, hc0, hx⟩ := Sl.row HD.out.secs (Below.refl _ w) at' hlk
        have HX := Lib.hid hx
        clear hx
        go_enter Try.func22, Try.ntmps22
        go_wp2_with ((with_reducible refine H.out.mono ?_); rintro e w1 ⟨rfl, hb1⟩; obtain ⟨hcc, hff⟩ := bcell hb1; have hb2 := hb0.trans (hb1.mono (by simp)); have hc1 := (hb2.cell (p := ⟨b, off + at', none⟩) hb).trans hc0)
        have hp0 : w1.cell? ⟨w.heap.size, 1, none⟩ = some (.slice pa pn pc) := (hcc _ _ (by first | (simp; done) | (simp; omega) | omega)).trans (by simp [go_sem])
        clear hcc hff
        go_loop [6, 7] (fun v i => ∃ (k : Nat) (oa : Option Addr) (n c : Nat), k ≤ pn ∧ i = .int .i64 k ∧ v = .slice oa n c ∧ Hid (Sl eByte S w oa n c (lastAt (D.pend.take k) at' (D.secs[at']'(by have := hls.out; omega))))) (fun _ i => pn - (intOf i).toNat)
        case atStart => exact ⟨0, _, _, _, by omega, rfl, rfl, HX.out⟩
        case round =>
          obtain ⟨k, oa, n, c, hk, rfl, rfl, hx⟩ := hrel
          by_cases hlt : k < pn
          · have hkl : k < D.pend.length := by have := hlp.out; omega
            obtain ⟨b', off', oa', n', c', rfl, hb', hS', hc0', hc1', hx', hlo, hhi⟩ := Sl.wr HD.out.pend hb2 k hkl
            have hstep : lastAt (D.pend.take (k + 1)) at' (D.secs[at']'(by have := hls.out; omega)) = if D.pend[k].at_ = at' then D.pend[k].data else lastAt (D.pend.take k) at' (D.secs[at']'(by have := hls.out; omega)) := by
              rw [List.take_succ_eq_append_getElem hkl]; simp only [lastAt, List.foldl_append, List.foldl_cons, List.foldl_nil]
            have HSTEP := Lib.hid hstep
            have HX' := Lib.hid hx'
            clear hstep hx'
            by_cases he : D.pend[k].at_ = at'
            · have htt : ((D.pend[k].at_ : Int) == at') = true := by simp [he]
              have HE := Lib.hid he
              clear he
              go_wp2
              exact ⟨⟨k + 1, oa', n', c', by omega, by go_num, rfl, by rw [HSTEP.out, if_pos HE.out]; exact HX'.out⟩, by simp [intOf]; omega⟩
            · have htt : ((D.pend[k].at_ : Int) == at') = false := by simp [he]
              have HE := Lib.hid he
              clear he
              go_wp2
              exact ⟨⟨k + 1, oa, n, c, by omega, by go_num, rfl, by rw [HSTEP.out, if_neg HE.out]; exact hx⟩, by simp [intOf]; omega⟩
          · go_wp2
            go_ret2
            refine RetBytes.of HST.out hb2 fun hb => ?_
            have := hx.out
            rw [List.take_of_length_le (by have := hlp.out; omega)] at this
            exact this.mono (keepUp_of_below hb)
      · have hst' : readF D at_ = ([], 40) := by
          have e := hls.out
          simp only [readF, hok, hst, e]
          rw [if_neg]
          simp
          omega
        have HST := Lib.hid hst'
        rw [hst] at H hb0
        clear hst' hok hst
        by_cases h1 : at_ < 0
        · clear hin
          go_enter Try.func22, Try.ntmps22
          go_wp2_with ((with_reducible refine H.out.mono ?_); rintro e w1 ⟨rfl, hb1⟩; obtain ⟨hcc, hff⟩ := bcell hb1)
          have hb2 := hb0.trans (hb1.mono (by simp))
          go_ret2
          exact RetBytes.of HST.out (by (repeat (first | (with_reducible assumption) | exact Below.refl _ _ | refine Below.setCell ?_ (by first | (simp; done) | (simp; omega) | omega) _ | refine Below.alloc ?_ (by first | (simp; done) | (simp; omega) | omega) _ | refine Below.drew ?_ | refine below_drewN ?_ _))) fun _ => Sl.zero _ _ _
        · have h2 : (sn : Int) ≤ at_ := by omega
          have h3 : 0 ≤ at_ := by omega
          clear hin h1
          go_enter Try.func22, Try.ntmps22
          go_wp2_with ((with_reducible refine H.out.mono ?_); rintro e w1 ⟨rfl, hb1⟩; obtain ⟨hcc, hff⟩ := bcell hb1)
          have hb2 := hb0.trans (hb1.mono (by simp))
          go_ret2
          exact RetBytes.of HST.out (by (repeat (first | (with_reducible assumption) | exact Below.refl _ _ | refine Below.setCell ?_ (by first | (simp; done) | (simp; omega) | omega) _ | refine Below.alloc ?_ (by first | (simp; done) | (simp; omega) | omega) _ | refine Below.drew ?_ | refine below_drewN ?_ _))) fun _ => Sl.zero _ _ _

end Go.Proofs.Ytckcdokfhdckhaa
