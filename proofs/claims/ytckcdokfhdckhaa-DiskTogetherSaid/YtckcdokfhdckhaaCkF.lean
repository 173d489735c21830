/- The walk of the reference's Same, of two disks that read alike: true. -/
import Derived.Test.YtckcdokfhdckhaaRows
import Derived.Test.YtckcdokfhdckhaaCkD
import Derived.WalkKit
import Derived.WalkLawsBesides
import Derived.WalkSpells
import Derived.Outline
import Derived.Lib.Hide
import Derived.Deep.QuietTactic
import Derived.BigQuiet
namespace Go.Proofs.Ytckcdokfhdckhaa
open Go.RowKit Go.Kx

/-- The bytes of a list as a Go string. -/
def strB (l : Bytes) : ByteArray := ⟨l.toArray⟩

theorem conv_bytes {P : Program} {S : Nat → Prop} {w : World} {a : Option Addr} {n c : Nat} {l : Bytes} (h : Sl eByte S w a n c l) (src e dst : TypeId) (hs : P.underlying src = some (.slice e)) (he : P.underlying e = some (.int .u8))
    (hd : P.underlying dst = some .string) (W : World) (hW : ∀ b, b < w.heap.size → W.heap[b]? = w.heap[b]?) : (convert src dst (.slice a n c)).run P W = .ok (.string (strB l)) W := by
  by_cases hn : n = 0
  · subst hn
    have hl : l = [] := List.eq_nil_of_length_eq_zero h.length
    subst hl
    cases a with
    | none => rw [run_convert_bytes_nil W src e hs he 0 c dst hd]; rfl
    | some ad =>
      rw [run_convert_bytes_string W src dst e _ 0 c hs he hd, run_bytesToString W _ 0 c [] (by simp [loadCells, loadCellsFrom])]
      rfl
  · have hl := h.length
    obtain ⟨b, off, cs, rfl, hS, hb, hcl, hcell, hr⟩ := h.elem 0 (by omega)
    rw [run_convert_bytes_arg W src e hs he b off n c (l.map fun x => (x.toNat : Int)) (by simpa using hl) (fun i hi => ?_) dst hd]
    · congr 2
      simp only [strOfNums, strB, ByteArray.mk.injEq]
      congr 1
      rw [List.map_map]
      conv => rhs; rw [← List.map_id l]
      refine List.map_congr_left fun x _ => ?_
      simp
    · obtain ⟨b', off', cs', he', hS', hb', hcl', hcell', hr'⟩ := h.elem i (by omega)
      simp only [Option.some.injEq, Addr.mk.injEq, and_true] at he'
      obtain ⟨rfl, rfl⟩ := he'
      have hc := hcell' 0 (by simp [eByte])
      simp only [eByte] at hr'
      subst hr'
      simp only [eByte, Nat.mul_one, Nat.add_zero, List.getElem?_cons_zero] at hc
      rw [World.cell?_of_block (w := w) (hW _ hb'), hc]
      simp [List.getD, show i < l.length by omega]

set_option maxHeartbeats 1000000 in
theorem same_true (S S' : Nat → Prop) (w : World) (sa : Option Addr) (sn sc : Nat) (pa : Option Addr) (pn pc : Nat) (ta : Option Addr) (tn tc : Nat) (qa : Option Addr) (qn qc : Nat) (D : Disk)
    (h : DiskAt S w sa sn sc pa pn pc D) (h' : DiskAt S' w ta tn tc qa qn qc D) :
    Calls Try.prog 14 #[.agg #[.slice sa sn sc, .slice pa pn pc, .int .i64 D.left, .bool D.stopped], .agg #[.slice ta tn tc, .slice qa qn qc, .int .i64 D.left, .bool D.stopped]] w fun e w' => e = .returned (.bool true) ∧ Below w.heap.size w w' := by
  have hsn : sn ≤ 140737488355328 := by have := h.secs.bytes; simp [eSl] at this; omega
  have hpn : pn ≤ 140737488355328 := by have := h.pend.bytes; simp [eWr] at this; omega
  obtain rfl : sn = tn := h.secs.length.symm.trans h'.secs.length
  obtain rfl : pn = qn := h.pend.length.symm.trans h'.pend.length
  have hls := Lib.hid h.secs.length
  have hlp := Lib.hid h.pend.length
  have H := Lib.hid h
  have H' := Lib.hid h'
  clear h h'
  have b1 : (((sn : Int)) != sn) = false := by simp
  have b2 : (((pn : Int)) != pn) = false := by simp
  have b3 : ((D.left : Int) != D.left) = false := by simp
  have b4 : (D.stopped != D.stopped) = false := by simp
  go_enter Try.func14, Try.ntmps14
  go_wp2_with fail
  go_loopw [5] (fun i wr => ∃ k q : Nat, k ≤ sn ∧ i = .int .i64 k ∧ wr = ((w.alloc (.cells #[.slice sa sn sc, .slice pa pn pc, .int .i64 D.left, .bool D.stopped] 25)).alloc (.cells #[.slice ta sn tc, .slice qa pn qc, .int .i64 D.left, .bool D.stopped] 25)).drewN q) (fun i _ => sn - (intOf i).toNat)
  case atStart => exact ⟨0, 0, by omega, rfl, rfl⟩
  case round =>
    obtain ⟨k, q, hk, rfl, rfl⟩ := hrel
    by_cases hlt : k < sn
    · obtain ⟨b, off, oa, n1, c1, rfl, hb, hS, hc0, hx⟩ := Sl.row H.out.secs (Below.refl _ w) k (by have := hls.out; omega)
      obtain ⟨b', off', oa', n1', c1', rfl, hb', hS', hc0', hx'⟩ := Sl.row H'.out.secs (Below.refl _ w) k (by have := hls.out; omega)
      have kc := fun W hW => conv_bytes (P := Try.prog) hx 35 5 9 Try.underlying35 Try.underlying5 Try.underlying9 W hW
      have kc' := fun W hW => conv_bytes (P := Try.prog) hx' 35 5 9 Try.underlying35 Try.underlying5 Try.underlying9 W hW
      have hBk : ∀ m i, i < w.heap.size → ((((w.alloc (.cells #[.slice (some ⟨b, off, none⟩) sn sc, .slice pa pn pc, .int .i64 D.left, .bool D.stopped] 25)).alloc (.cells #[.slice (some ⟨b', off', none⟩) sn tc, .slice qa pn qc, .int .i64 D.left, .bool D.stopped] 25)).drewN q).drewN m).heap[i]? = w.heap[i]? := fun m i hi => by
        have hbb : Below w.heap.size w ((w.alloc (.cells #[.slice (some ⟨b, off, none⟩) sn sc, .slice pa pn pc, .int .i64 D.left, .bool D.stopped] 25)).alloc (.cells #[.slice (some ⟨b', off', none⟩) sn tc, .slice qa pn qc, .int .i64 D.left, .bool D.stopped] 25)) := by (repeat (first | (with_reducible assumption) | exact Below.refl _ _ | refine Below.setCell ?_ (by first | (simp; done) | (simp; omega) | omega) _ | refine Below.alloc ?_ (by first | (simp; done) | (simp; omega) | omega) _ | refine Below.drew ?_ | refine below_drewN ?_ _))
        exact hbb.block i hi
      have kd := fun m => kc _ (hBk m)
      have kd' := fun m => kc' _ (hBk m)
      clear kc kc' hBk hx hx'
      simp only [World.drewN_drewN] at kd kd'
      generalize secs_k : (D.secs[k]'(by have := hls.out; omega)) = x at kd kd'
      have hxx : ((strB x).toList != (strB x).toList) = false := by simp
      clear secs_k
      go_wp2
      go_quiet (fail)
      go_wp2
      exact ⟨⟨k + 1, _, by omega, by go_num, rfl⟩, by simp [intOf]; omega⟩
    · go_wp2
      go_loopw [6] (fun i wr => ∃ k q : Nat, k ≤ pn ∧ i = .int .i64 k ∧ wr = ((w.alloc (.cells #[.slice sa sn sc, .slice pa pn pc, .int .i64 D.left, .bool D.stopped] 25)).alloc (.cells #[.slice ta sn tc, .slice qa pn qc, .int .i64 D.left, .bool D.stopped] 25)).drewN q) (fun i _ => pn - (intOf i).toNat)
      case atStart => exact ⟨0, _, by omega, rfl, rfl⟩
      case round =>
        obtain ⟨k, q, hk, rfl, rfl⟩ := hrel
        by_cases hlt : k < pn
        · have hkl : k < D.pend.length := by have := hlp.out; omega
          obtain ⟨b, off, oa, n1, c1, rfl, hb, hS, hc0, hc1, hx, hlo, hhi⟩ := Sl.wr H.out.pend (Below.refl _ w) k hkl
          obtain ⟨b', off', oa', n1', c1', rfl, hb', hS', hc0', hc1', hx', hlo', hhi'⟩ := Sl.wr H'.out.pend (Below.refl _ w) k hkl
          have kc := fun W hW => conv_bytes (P := Try.prog) hx 35 5 9 Try.underlying35 Try.underlying5 Try.underlying9 W hW
          have kc' := fun W hW => conv_bytes (P := Try.prog) hx' 35 5 9 Try.underlying35 Try.underlying5 Try.underlying9 W hW
          have hBk : ∀ m i, i < w.heap.size → ((((w.alloc (.cells #[.slice sa sn sc, .slice (some ⟨b, off, none⟩) pn pc, .int .i64 D.left, .bool D.stopped] 25)).alloc (.cells #[.slice ta sn tc, .slice (some ⟨b', off', none⟩) pn qc, .int .i64 D.left, .bool D.stopped] 25)).drewN q).drewN m).heap[i]? = w.heap[i]? := fun m i hi => by
            have hbb : Below w.heap.size w ((w.alloc (.cells #[.slice sa sn sc, .slice (some ⟨b, off, none⟩) pn pc, .int .i64 D.left, .bool D.stopped] 25)).alloc (.cells #[.slice ta sn tc, .slice (some ⟨b', off', none⟩) pn qc, .int .i64 D.left, .bool D.stopped] 25)) := by (repeat (first | (with_reducible assumption) | exact Below.refl _ _ | refine Below.setCell ?_ (by first | (simp; done) | (simp; omega) | omega) _ | refine Below.alloc ?_ (by first | (simp; done) | (simp; omega) | omega) _ | refine Below.drew ?_ | refine below_drewN ?_ _))
            exact hbb.block i hi
          have kd := fun m => kc _ (hBk m)
          have kd' := fun m => kc' _ (hBk m)
          clear kc kc' hBk hx hx'
          simp only [World.drewN_drewN] at kd kd'
          generalize pend_k : D.pend[k] = x at kd kd' hc0 hc0' hlo hhi hlo' hhi'
          have hxx : ((strB x.data).toList != (strB x.data).toList) = false := by simp
          have hxy : ((x.at_ : Int) != x.at_) = false := by simp
          clear pend_k
          go_wp2
          go_quiet (fail)
          go_wp2
          exact ⟨⟨k + 1, _, by omega, by go_num, rfl⟩, by simp [intOf]; omega⟩
        · go_wp2
          go_ret
          exact ⟨rfl, by (repeat (first | (with_reducible assumption) | exact Below.refl _ _ | refine Below.setCell ?_ (by first | (simp; done) | (simp; omega) | omega) _ | refine Below.alloc ?_ (by first | (simp; done) | (simp; omega) | omega) _ | refine Below.drew ?_ | refine below_drewN ?_ _))⟩

end Go.Proofs.Ytckcdokfhdckhaa
