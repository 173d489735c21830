/- The walk of the reference's Write where it writes. -/
import Derived.Test.YtckcdokfhdckhaaRows
import Derived.Test.YtckcdokfhdckhaaCkI
import Derived.WalkKit
import Derived.WalkLawsBesides
import Derived.WalkSpells
import Derived.Outline
import Derived.Lib.Hide
import Derived.Laws.CopyOwn
import Derived.Deep.OwnRows
import Derived.RangeFuncBox
namespace Go.Proofs.Ytckcdokfhdckhaa
open Go.RowKit Go.Kx

def lenOf : Value → Nat | .slice _ n _ => n | _ => 0

theorem own_form {w : World} {base e size n : Nat} {v : Value} {xs : List Value} (h : w.ownsRow base e size v n xs) : ∃ a c, v = .slice a n c := by
  rcases h.2 with ⟨rfl, rfl⟩ | ⟨g, cap, cur, rfl, _⟩
  · exact ⟨none, 0, rfl⟩
  · exact ⟨_, _, rfl⟩

theorem one_new (w : World) (v : Value) (t : TypeId) : ∀ j u, [v][j]? = some u → (w.alloc (.cells #[v] t)).cell? ((⟨w.heap.size, 0, none⟩ : Addr).add j) = some u := by
  intro j u hu
  rw [addr_add_plain, cell_of_row _ _ _ #[v] t (0, 0) (heap_alloc_at _ _ _ rfl)]
  simpa using hu
theorem one_one (k : IntKind) (n : Int) : ∀ u ∈ [Value.int k n], u.oneCell' = true := by
  intro u hu
  simp only [List.mem_cons, List.not_mem_nil, or_false] at hu
  subst hu; rfl

theorem elems_bytes {S : Nat → Prop} {w : World} (l : Bytes) : Elems eByte S w (l.map byteV) l := by
  refine ⟨by simp [eByte], fun i hi => ?_⟩
  simp only [eByte, Nat.mul_one]
  rw [List.drop_eq_getElem_cons (by simpa using hi)]
  simp [byteV]

theorem pad_step (b : Bytes) (m : Nat) (h : b.length ≤ m) : (b ++ List.replicate (m - b.length) 0).map byteV ++ [.int .u8 0] = (b ++ List.replicate (m + 1 - b.length) 0).map byteV := by
  rw [show m + 1 - b.length = (m - b.length) + 1 by omega, List.replicate_succ', ← List.append_assoc, List.map_append (l₁ := b ++ _)]
  rfl

set_option maxRecDepth 20000 in
set_option maxHeartbeats 2000000 in
theorem rwrite_ok (S : Nat → Prop) (w : World) (sa : Option Addr) (sn sc : Nat) (pa : Option Addr) (pn pc : Nat) (ba : Option Addr) (bn bc : Nat) (D : Disk) (at_ : Int) (b : Bytes) (h0 : -9223372036854775808 ≤ at_ ∧ at_ ≤ 9223372036854775807)
    (h : DiskAt S w sa sn sc pa pn pc D) (hbb : Sl eByte S w ba bn bc b) (hok : Disk.ok D = true) (hst : D.stopped = false) (hin : 0 ≤ at_ ∧ at_ < (sn : Int)) (hlt128 : bn ≤ 128) (hp : pn ≠ 4096) :
    Calls Try.prog 20 #[.agg #[.slice sa sn sc, .slice pa pn pc, .int .i64 D.left, .bool D.stopped], .int .i64 at_, .slice ba bn bc] w (RetDisk S w ({ D with pend := D.pend ++ [⟨at_, pad b⟩] }, 0)) := by
  have HST := Lib.hid hst
  rw [hst]
  have hb0 : Below w.heap.size w ((w.alloc (.cells #[.slice sa sn sc, .slice pa pn pc, .int .i64 D.left, .bool false] 25)).alloc (.cells #[.slice none 0 0, .slice none 0 0, .int .i64 0, .bool false] 25)) := by (repeat (first | (with_reducible assumption) | exact Below.refl _ _ | refine Below.setCell ?_ (by first | (simp; done) | (simp; omega) | omega) _ | refine Below.alloc ?_ (by first | (simp; done) | (simp; omega) | omega) _ | refine Below.drew ?_ | refine below_drewN ?_ _))
  have hD0 : ((w.alloc (.cells #[.slice sa sn sc, .slice pa pn pc, .int .i64 D.left, .bool false] 25)).alloc (.cells #[.slice none 0 0, .slice none 0 0, .int .i64 0, .bool false] 25)).heap[w.heap.size]? = some (.cells #[.slice sa sn sc, .slice pa pn pc, .int .i64 D.left, .bool false] 25 (0, 0)) := by
    rw [Below.heap_alloc _ _ _ (by simp)]; exact heap_alloc_at _ _ _ rfl
  have hR0 : ((w.alloc (.cells #[.slice sa sn sc, .slice pa pn pc, .int .i64 D.left, .bool false] 25)).alloc (.cells #[.slice none 0 0, .slice none 0 0, .int .i64 0, .bool false] 25)).heap[w.heap.size + 1]? = some (.cells #[.slice none 0 0, .slice none 0 0, .int .i64 0, .bool false] 25 (0, 0)) := heap_alloc_at _ _ _ (by simp)
  have HD0 := Lib.hid hD0
  have HR0 := Lib.hid hR0
  have H := Lib.hid (rcheck_any S _ sa sn sc pa pn pc D.left false D.secs D.pend (h.secs.below hb0) (h.pend.below hb0))
  rw [show checkF ⟨D.secs, D.pend, D.left, false⟩ = 0 from (by have : Disk.ok ⟨D.secs, D.pend, D.left, false⟩ = true := hok; simp [checkF, this])] at H
  have HD := Lib.hid h
  have HB := Lib.hid hbb
  have hls := Lib.hid h.secs.length
  have hlp := Lib.hid h.pend.length
  have hlb := Lib.hid hbb.length
  have hpn : pn ≤ 4096 := by have := (Disk.ok_out hok).2.2.1; have := hlp.out; omega
  have hbn : bn ≤ 140737488355328 := by omega
  have hle1 : w.heap.size ≤ ((w.alloc (.cells #[.slice sa sn sc, .slice pa pn pc, .int .i64 D.left, .bool false] 25)).alloc (.cells #[.slice none 0 0, .slice none 0 0, .int .i64 0, .bool false] 25)).heap.size := by simp; omega
  have hpt : ((pn : Int) == 4096) = false := by simp; omega
  obtain ⟨hi0, hi1⟩ := hin
  have hd1 : decide (at_ < 0) = false := by simp; omega
  have hd3 : decide ((128 : Int) < (bn : Int)) = false := by simp; omega
  have hd2 : decide ((sn : Int) ≤ at_) = false := by simp; omega
  have HNZ := Lib.hid (h.pend.none_zero)
  have HNB := Lib.hid (hbb.none_zero)
  have hq1 : pn + 1 ≤ maxLen := by simp only [maxLen]; omega
  have HQ1 := Lib.hid hq1
  have hq2 : (b.map byteV).length = bn * 1 := by rw [List.length_map, hlb.out, Nat.mul_one]
  have HQ2 := Lib.hid hq2
  clear h hbb hD0 hR0 hok hst hp hq1 hq2
  obtain ⟨i0, hi, hz0, hz1, hz2⟩ := info_parts cloneW_info
  obtain ⟨j0, hj, hy0, hy1, hy2⟩ := info_parts cloneY_info
  go_enter Try.func20, Try.ntmps20
  go_wp2_with (first | ((with_reducible refine H.out.mono ?_); rintro e w1 ⟨rfl, hb1⟩; have hz : w.heap.size + 1 < w1.heap.size := (by have := hb1.size; simp at this; omega); have HD1 := Lib.hid ((hb1.block (w.heap.size) (by first | (simp; done) | (simp; omega) | omega)).trans HD0.out); have HR1 := Lib.hid ((hb1.block (w.heap.size + 1) (by first | (simp; done) | (simp; omega) | omega)).trans HR0.out); obtain ⟨d0, d1, d2, d3, df⟩ := box4 HD1.out; have hbw := hb0.trans (hb1.mono hle1); clear hb1 hb0 H HD0 HR0 hle1; have HM := Lib.hid (World.ownsRow_made w1 #[] 0 (base := w1.heap.size) (e := 5) (size := 1) (Nat.le_refl _) (by simp [maxLen]) (by simp))) | ((with_reducible refine atSlot 39 ?_); go_loud (refine wpList_append_slice rfl (.tmp 37) (.tmp 38) 35 rfl w1.heap.size 5 j0 (.int .u8 0) 1 1 Try.underlying35 hj hy0 hy1 hy2 rfl (by decide) _ _ _ rfl HM.out ba bn bc (b.map byteV) rfl HNB.out HQ2.out (fun ad had j u hu => cell_after _ (Sl.byte_cells (HB.out.below hbw) ad had j u hu)) (byteV_one b) (by simp only [maxLen]; omega) (by omega) (by simp) ?_); intro v2 w2 hown2 hgrow2))
  have hb2 : Below w1.heap.size w1 w2 := (((Below.refl _ w1).alloc (Nat.le_refl _) _).grown hgrow2 (by simp) (fun k e => by cases (show some w1.heap.size = some k from e); exact Nat.le_refl _))
  obtain ⟨a2, c2, rfl⟩ := own_form hown2
  have HO2 := Lib.hid hown2
  clear hown2 hgrow2 HM
  simp only [Nat.zero_add]
  go_loopw [8] (fun v wr => ∃ (m : Nat) (l : Bytes), bn ≤ m ∧ m ≤ 128 ∧ Hid (l = b ++ List.replicate (m - b.length) 0) ∧ Hid (wr.ownsRow w1.heap.size 5 1 v m (l.map byteV)) ∧ Below w1.heap.size w1 wr) (fun v _ => 128 - lenOf v)
  case atStart => exact ⟨bn, b, Nat.le_refl _, hlt128, by rw [← hlb.out]; simp [Hid], by show World.ownsRow _ _ _ _ _ _ _; simpa using HO2.out, hb2⟩
  case round =>
    obtain ⟨m, l, hm1, hm2, HL, HO, hbr⟩ := hrel
    obtain ⟨a3, c3, rfl⟩ := own_form HO.out
    clear HO2 hb2
    by_cases hlt : m < 128
    · go_wp2_with ((with_reducible refine atSlot 45 ?_); refine wpList_append_own _ rfl (.tmp 43) (.tmp 44) 35 rfl w1.heap.size 5 j0 (.int .u8 0) 1 1 Try.underlying35 hj hy0 hy1 hy2 rfl (by decide) _ _ _ rfl (HO.out.alloc _) ⟨wr.heap.size, 0, none⟩ 1 1 [.int .u8 0] rfl rfl (one_new _ _ _) (one_one _ _) (by simp only [maxLen]; omega) (by omega) (by have := hbr.size; simp; omega) ?_; intro v4 w4 hown4 hgrow4 _)
      have hb4 : Below w1.heap.size w1 w4 := (hbr.alloc hbr.size _).grown hgrow4 (by have := hbr.size; simp; omega) (fun k e => (HO.out.lt k e).1)
      have HO4 := Lib.hid hown4
      clear hown4 hgrow4
      obtain ⟨a5, c5, rfl⟩ := own_form HO4.out
      go_wp2
      have hown5 : Hid (w4.ownsRow w1.heap.size 5 1 (.slice a5 (m + 1) c5) (m + 1) ((b ++ List.replicate (m + 1 - b.length) 0).map byteV)) := by
        have := HO4.out
        rw [HL.out, pad_step b m (by have := hlb.out; omega)] at this
        exact this
      exact ⟨⟨m + 1, (b ++ List.replicate (m + 1 - b.length) 0), by omega, by omega, rfl, hown5, hb4⟩, by simp [lenOf]; omega⟩
    · obtain rfl : m = 128 := by omega
      have hbw5 : Below w.heap.size w wr := hbw.trans (hbr.mono (by omega))
      have hz5 : w1.heap.size ≤ wr.heap.size := hbr.size
      have HDr := Lib.hid ((hbr.block (w.heap.size) (by first | (simp; done) | (simp; omega) | omega)).trans HD1.out)
      have HRr := Lib.hid ((hbr.block (w.heap.size + 1) (by first | (simp; done) | (simp; omega) | omega)).trans HR1.out)
      have hzr : w.heap.size < wr.heap.size := by omega
      have hzr1 : w.heap.size + 1 < wr.heap.size := by omega
      clear HD1 HR1
      obtain ⟨d0, d1, d2, d3, df⟩ := box4 HDr.out
      obtain ⟨olds, hol, hoc⟩ := (HD.out.pend.mono (S' := fun b => S b ∧ b < w.heap.size) (fun b hS hb => ⟨⟨hS, hb⟩, hbw5.block b hb⟩)).cells (by decide)
      have HOL := Lib.hid hol
      have HOC := Lib.hid hoc
      have hq : olds.length = pn * 2 := by rw [hol.length, hlp.out]; rfl
      have HQ3 := Lib.hid hq
      have HONE := Lib.hid (hol.one (by decide) one_wr)
      clear hol hoc hq
      have HM := Lib.hid (World.ownsRow_made wr #[] 0 (base := wr.heap.size) (e := 54) (size := 2) (Nat.le_refl _) (by simp [maxLen]) (by simp))
      go_wp2_with (first | ((with_reducible refine atSlot 49 ?_); refine wpList_append_slice rfl (.tmp 46) (.tmp 48) 23 rfl wr.heap.size 54 i0 (.agg #[.int .i64 0, .slice none 0 0]) 2 32 Try.underlying23 hi hz0 hz1 hz2 rfl (by decide) _ _ _ rfl HM.out pa pn pc olds rfl HNZ.out HQ3.out (fun ad had j u hu => cell_after _ (HOC.out ad had j u hu)) HONE.out (by simp only [maxLen]; omega) (by omega) (by simp) ?_; intro v6 w6 hown6 hgrow6; have HO6 := Lib.hid hown6; have HG6 := Lib.hid hgrow6; clear hown6 hgrow6) | ((with_reducible refine atSlot 54 ?_); refine wpList_append_own _ rfl (.tmp 49) (.tmp 53) 23 rfl wr.heap.size 54 i0 (.agg #[.int .i64 0, .slice none 0 0]) 2 32 Try.underlying23 hi hz0 hz1 hz2 rfl (by decide) _ _ _ rfl (HO6.out.alloc _) ⟨w6.heap.size, 0, none⟩ 1 1 [.int .i64 at_, .slice a3 128 c3] rfl rfl (two_new _ _ _ _) (two_one _ _ _ _ _) (by simp only [maxLen]; omega) (by omega) (by have := HG6.out.size; simp at this ⊢; omega) ?_; intro v7 w7 hown7 hgrow7 _; have HO7 := Lib.hid hown7; have HG7 := Lib.hid hgrow7; clear hown7 hgrow7; obtain ⟨g7, cap7, rfl⟩ := ownsRow_succ HO7.out; have hb6 : Below wr.heap.size wr w6 := (((Below.refl _ wr).alloc (Nat.le_refl _) _).grown HG6.out (by simp) (fun k e => (by cases (show some wr.heap.size = some k from e); exact Nat.le_refl _))); have hb7 : Below wr.heap.size wr w7 := ((hb6.alloc hb6.size _).grown HG7.out (by have := hb6.size; simp; omega) (fun k e => (HO6.out.lt k e).1)); clear d0 d1 d2 d3 df; obtain ⟨d0, d1, d2, d3, df⟩ := box4 ((hb7.block (w.heap.size) (by first | (simp; done) | (simp; omega) | omega)).trans HDr.out); obtain ⟨r0, r1, r2, r3, rf⟩ := box4 ((hb7.block (w.heap.size + 1) (by first | (simp; done) | (simp; omega) | omega)).trans HRr.out)))
      refine bodyPost_ret (v := .tuple #[.agg #[.slice sa sn sc, .slice (some ⟨g7, 0, none⟩) (pn + 1) cap7, .int .i64 D.left, .bool false], .int .i64 0]) (by simp [results, Try.results20, go_sem, r0, r1, r2, r3]) rfl ?_
      have hbw7 : Below w.heap.size w w7 := hbw5.trans (hb7.mono (by omega))
      refine RetDisk.of (D := ⟨D.secs, D.pend ++ [⟨at_, pad b⟩], D.left, false⟩) rfl rfl rfl (by (repeat (first | (with_reducible assumption) | exact Below.refl _ _ | refine Below.setCell ?_ (by first | (simp; done) | (simp; omega) | omega) _ | refine Below.alloc ?_ (by first | (simp; done) | (simp; omega) | omega) _ | refine Below.drew ?_ | refine below_drewN ?_ _))) fun hbF => ⟨HD.out.secs.mono (keepUp_of_below hbF), ?_, HD.out.lo, HD.out.hi⟩
      have hl : l = pad b := by rw [HL.out]; rfl
      subst hl
      have hdat : Sl eByte (fun b => (S b ∧ b < w.heap.size) ∨ w1.heap.size ≤ b) wr a3 128 c3 (pad b) := by
        obtain ⟨a, c, hv, hs⟩ := Sl.of_owns (S' := fun b => (S b ∧ b < w.heap.size) ∨ w1.heap.size ≤ b) HO.out (elems_bytes (S := fun _ => False) (pad b)) (by decide) (by simp [eByte]) (fun b hb _ => hb.elim) (fun g hg => .inr (HO.out.lt g hg).1)
        cases hv
        exact hs
      have hel : Elems eWr (fun b => (S b ∧ b < w.heap.size) ∨ w1.heap.size ≤ b) w7 (olds ++ [.int .i64 at_, .slice a3 128 c3]) (D.pend ++ [⟨at_, pad b⟩]) := by
        refine ((HOL.out.mono fun k hk hlt => ⟨.inl hk, hb7.block k hlt⟩).append (Elems.single ⟨a3, 128, c3, rfl, h0, hdat.mono fun k hk hlt => ⟨hk, hb7.block k hlt⟩⟩))
      have hO7 : w7.ownsRow wr.heap.size 54 2 (.slice (some ⟨g7, 0, none⟩) (pn + 1) cap7) (pn + 1) (olds ++ [.int .i64 at_, .slice a3 128 c3]) := by simpa using HO7.out
      obtain ⟨a8, c8, hv8, hs8⟩ := Sl.of_owns (S' := fun b => (S b ∧ b < w.heap.size) ∨ w1.heap.size ≤ b) hO7 hel (by decide) (by simp [eWr]; omega) (fun b hb _ => hb) (fun g hg => .inr (by have := (hO7.lt g hg).1; omega))
      cases hv8
      refine hs8.mono fun k hk hlt => ⟨?_, ?_⟩
      · rcases hk with hk | hk
        · exact .inl hk.1
        · exact .inr (by omega)
      · have k1 : k ≠ w.heap.size := by rcases hk with hk | hk <;> omega
        have k2 : k ≠ w.heap.size + 1 := by rcases hk with hk | hk <;> omega
        rw [set_other _ _ _ _ _ k2, set_other _ _ _ _ _ k2, set_other _ _ _ _ _ k2, set_other _ _ _ _ _ k2, set_other _ _ _ _ _ k1]

end Go.Proofs.Ytckcdokfhdckhaa
