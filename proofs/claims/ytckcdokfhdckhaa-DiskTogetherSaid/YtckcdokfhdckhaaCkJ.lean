/- The walk of disk.Write where it writes. -/
import Derived.Test.YtckcdokfhdckhaaRows
import Derived.Test.YtckcdokfhdckhaaCkI
import Derived.WalkKit
import Derived.WalkLawsBesides
import Derived.WalkSpells
import Derived.Outline
import Derived.Lib.Hide
import Derived.Laws.CopyOwn
import Derived.Deep.OwnRows
import Derived.RangeFuncBox
namespace Go.Proofs.Ytckcdokfhdckhaa
open Go.RowKit Go.Kx

set_option maxHeartbeats 2000000 in
set_option maxRecDepth 20000 in
theorem write_ok (S : Nat → Prop) (w : World) (sa : Option Addr) (sn sc : Nat) (pa : Option Addr) (pn pc : Nat) (ba : Option Addr) (bn bc : Nat) (D : Disk) (at_ : Int) (b : Bytes) (h0 : -9223372036854775808 ≤ at_ ∧ at_ ≤ 9223372036854775807)
    (h : DiskAt S w sa sn sc pa pn pc D) (hbb : Sl eByte S w ba bn bc b) (hok : (Disk.ok D && !D.stopped) = true) (hin : 0 ≤ at_ ∧ at_ < (sn : Int)) (hlt128 : bn ≤ 128) (hp : pn ≠ 4096) :
    Calls Try.prog 19 #[.agg #[.slice sa sn sc, .slice pa pn pc, .int .i64 D.left, .bool D.stopped], .int .i64 at_, .slice ba bn bc] w (RetDisk S w ({ D with pend := D.pend ++ [⟨at_, pad b⟩] }, 0)) := by
  have hb0 : Below w.heap.size w ((w.alloc (.cells #[.slice sa sn sc, .slice pa pn pc, .int .i64 D.left, .bool D.stopped] 25)).alloc (.cells #[.slice none 0 0, .slice none 0 0, .int .i64 0, .bool false] 25)) := by (repeat (first | (with_reducible assumption) | exact Below.refl _ _ | refine Below.setCell ?_ (by first | (simp; done) | (simp; omega) | omega) _ | refine Below.alloc ?_ (by first | (simp; done) | (simp; omega) | omega) _ | refine Below.drew ?_ | refine below_drewN ?_ _))
  have hD0 : ((w.alloc (.cells #[.slice sa sn sc, .slice pa pn pc, .int .i64 D.left, .bool D.stopped] 25)).alloc (.cells #[.slice none 0 0, .slice none 0 0, .int .i64 0, .bool false] 25)).heap[w.heap.size]? = some (.cells #[.slice sa sn sc, .slice pa pn pc, .int .i64 D.left, .bool D.stopped] 25 (0, 0)) := by
    rw [Below.heap_alloc _ _ _ (by simp)]; exact heap_alloc_at _ _ _ rfl
  have hR0 : ((w.alloc (.cells #[.slice sa sn sc, .slice pa pn pc, .int .i64 D.left, .bool D.stopped] 25)).alloc (.cells #[.slice none 0 0, .slice none 0 0, .int .i64 0, .bool false] 25)).heap[w.heap.size + 1]? = some (.cells #[.slice none 0 0, .slice none 0 0, .int .i64 0, .bool false] 25 (0, 0)) := heap_alloc_at _ _ _ (by simp)
  have HD0 := Lib.hid hD0
  have HR0 := Lib.hid hR0
  have H := Lib.hid (runs_any S _ sa sn sc pa pn pc D.left D.stopped D.secs D.pend (h.secs.below hb0) (h.pend.below hb0))
  have HD := Lib.hid h
  have HB := Lib.hid hbb
  have hls := Lib.hid h.secs.length
  have hlp := Lib.hid h.pend.length
  have hlb := Lib.hid hbb.length
  have hpn : pn ≤ 4398046511104 := by have := h.pend.bytes; simp [eWr] at this; omega
  have hbn : bn ≤ 140737488355328 := by have := hbb.bytes; simp [eByte] at this; omega
  clear h hbb hD0 hR0
  have hdd : (decide ((0 : Int) ≤ at_) && decide (at_ < (sn : Int))) = true := by simp; omega
  have hpt : ((pn : Int) == 4096) = false := by simp; omega
  rw [show (Disk.ok { secs := D.secs, pend := D.pend, left := D.left, stopped := D.stopped } && !D.stopped) = true from hok] at H
  have hinfo8 : (Try.prog.info? 5).map (·.size) = some 1 := by kernel_rfl
  have hmin : (b.map byteV).length = Nat.min bn 128 := by rw [List.length_map, hlb.out]; exact (Nat.min_eq_left hlt128).symm
  have Hmin := Lib.hid hmin
  have hfit : 0 + (b.map byteV).length ≤ ((List.replicate 128 (0 : UInt8)).map byteV).length := by rw [List.length_map, List.length_map, List.length_replicate, hlb.out]; omega
  have Hfit := Lib.hid hfit
  have hle1 : w.heap.size ≤ ((w.alloc (.cells #[.slice sa sn sc, .slice pa pn pc, .int .i64 D.left, .bool D.stopped] 25)).alloc (.cells #[.slice none 0 0, .slice none 0 0, .int .i64 0, .bool false] 25)).heap.size := by simp; omega
  have hq1 : D.pend.length + 1 ≤ maxLen := by have := hlp.out; simp only [maxLen]; omega
  have hq2 : (D.pend.length + 1) * 32 ≤ 140737488355328 := by have := (Disk.ok_out (by simp only [Bool.and_eq_true] at hok; exact hok.1)).2.2.1; omega
  have hq3 : D.pend.length ≤ 140737488355328 := by have := hlp.out; omega
  have HQ1 := Lib.hid hq1
  have HQ2 := Lib.hid hq2
  have HQ3 := Lib.hid hq3
  clear hmin hfit hok hin hp hq1 hq2 hq3
  have hmk : ∀ w, (Instr.makeSlice 35 (.int .i64 128) (.int .i64 128)).run Try.prog w = .ok (.slice (some ⟨w.heap.size, 0, none⟩) 128 128) (w.alloc (.cells zeros 5)) := fun w => run_make_row' (P := Try.prog) 35 5 (.int .u8 0) 1 Try.underlying35 cloneY_info rfl .i64 .i64 128 (by decide) (by decide) w
  obtain ⟨i0, hi, hz0, hz1, hz2⟩ := info_parts cloneW_info
  go_enter Try.func19, Try.ntmps19
  go_wp2_with (first | ((with_reducible refine H.out.mono ?_); rintro e w1 ⟨rfl, hb1⟩; have hz : w.heap.size + 1 < w1.heap.size := (by have := hb1.size; simp at this; omega); obtain ⟨d0, d1, d2, d3, df⟩ := box4 ((hb1.block (w.heap.size) (by first | (simp; done) | (simp; omega) | omega)).trans HD0.out)) | (go_at_call 36; refine (has_any _ _ _ _ _ _ _ _ _ _).mono ?_; rw [hdd]; rintro e w2 ⟨rfl, hb3⟩; clear d0 d1 d2 d3 df; have HR2 := Lib.hid ((hb3.block (w.heap.size + 1) (by first | (simp; done) | (simp; omega) | omega)).trans ((hb1.block (w.heap.size + 1) (by first | (simp; done) | (simp; omega) | omega)).trans HR0.out)); have HD2 := Lib.hid ((hb3.block (w.heap.size) (by first | (simp; done) | (simp; omega) | omega)).trans ((hb1.block (w.heap.size) (by first | (simp; done) | (simp; omega) | omega)).trans HD0.out)); obtain ⟨d0, d1, d2, d3, df⟩ := box4 HD2.out) | ((with_reducible refine atSlot 34 ?_); refine wpList_copy_splice rfl (.tmp 32) (.tmp 33) 35 35 rfl 5 Try.underlying35 hinfo8 (some ⟨w2.heap.size, 0, none⟩) ba 128 128 bn bc rfl rfl w2.heap.size 0 ((List.replicate 128 (0 : UInt8)).map byteV) 5 (by rw [← zeros_eq]; exact heap_alloc_at _ _ _ rfl) (b.map byteV) Hmin.out (copy_src (HB.out.below ((hb0.trans (hb1.mono hle1)).trans (hb3.mono (by omega)))) _ _) Hfit.out (byteV_one b) w2.heap.size w2 ((Below.refl _ _).alloc (Nat.le_refl _) _) (Nat.le_refl _) ?_; intro w3 hd3 hb4; have hb2 : Below w.heap.size w w2 := (hb0.trans (hb1.mono (by simp; omega))).trans (hb3.mono (by omega)); have hz2' : w.heap.size + 1 < w2.heap.size := (by have := hb3.size; omega); have hz3 : w2.heap.size < w3.heap.size := (Array.getElem?_eq_some_iff.1 hd3.out).1; have hb5 : Below w.heap.size w w3 := hb2.trans (hb4.mono (by omega)); have HR3 := Lib.hid ((hb4.block (w.heap.size + 1) (by first | (simp; done) | (simp; omega) | omega)).trans HR2.out); have HD3 := Lib.hid ((hb4.block (w.heap.size) (by first | (simp; done) | (simp; omega) | omega)).trans HD2.out); clear d0 d1 d2 d3 df HR2 HD2 HR0 HD0 H hb0 hb1 hb3 hmk; obtain ⟨d0, d1, d2, d3, df⟩ := box4 HD3.out; have HC := Lib.hid (cloneW_any (fun b => S b ∧ b < w.heap.size) w3 pa pn pc D.pend (HD.out.pend.mono (fun b hS hb => ⟨⟨hS, hb⟩, hb5.block b hb⟩)))) | ((with_reducible refine HC.out.mono ?_); rintro e w4 ⟨v, xs, rfl, hown, hel, hb6⟩; obtain ⟨a4, c4, rfl, hs4⟩ := Sl.of_owns (S' := Up (fun b => S b ∧ b < w.heap.size) w3) hown hel (by decide) (by have := hlp.out; simp [eWr]; omega) (fun b hb _ => .inl hb) (fun g hg => .inr (hown.lt g hg).1); clear HC; have HS4 := Lib.hid hs4; clear hs4 hown hel; clear d0 d1 d2 d3 df; have hz4 : w3.heap.size ≤ w4.heap.size := hb6.size; have HR4 := Lib.hid ((hb6.block (w.heap.size + 1) (by first | (simp; done) | (simp; omega) | omega)).trans HR3.out); have HD4 := Lib.hid ((hb6.block (w.heap.size) (by first | (simp; done) | (simp; omega) | omega)).trans HD3.out); obtain ⟨d0, d1, d2, d3, df⟩ := box4 HD4.out) | (go_at_call 37; refine (clipW_any _ _ _ _ HS4.out.cap HS4.out.nil HQ3.out).mono ?_; rintro e w5 ⟨rfl, rfl⟩; obtain ⟨olds, hol, hoc⟩ := HS4.out.cells (by decide); have HOL := Lib.hid hol; have HOC := Lib.hid hoc; clear hol hoc; have hn4 : a4 = none → D.pend.length = 0 ∧ D.pend.length = 0 := (fun h => by have := HS4.out.nil h; have := HS4.out.cap; omega); have HN4 := Lib.hid hn4; clear hn4) | ((with_reducible refine atSlot 43 ?_); go_loud (refine wpList_append_grows _ rfl (.tmp 38) (.tmp 42) 23 rfl 54 i0 (.agg #[.int .i64 0, .slice none 0 0]) 2 32 Try.underlying23 hi hz0 hz1 hz2 rfl (by decide) a4 D.pend.length D.pend.length olds rfl HN4.out HOL.out.length (fun b hb j u hu => cell_after _ (HOC.out b hb j u hu)) ⟨w4.heap.size, 0, none⟩ 1 1 [.int .i64 at_, .slice (some ⟨w2.heap.size, 0, none⟩) 128 128] rfl rfl (two_new _ _ _ _) (two_one _ _ _ _ _) (Nat.lt_succ_self _) HQ1.out HQ2.out ?_); intro v5 w5 hown5 hgrow5; have hb7 : Below w4.heap.size w4 w5 := (((Below.refl _ w4).alloc (Nat.le_refl _) _).grown hgrow5 (by simp) (fun k e => by cases e)); obtain ⟨g5, cap5, rfl⟩ := ownsRow_succ hown5; have HO5 := Lib.hid hown5; clear hown5 hgrow5; clear d0 d1 d2 d3 df; have hz5 : w4.heap.size ≤ w5.heap.size := hb7.size; have HR5 := Lib.hid ((hb7.block (w.heap.size + 1) (by first | (simp; done) | (simp; omega) | omega)).trans HR4.out); have HD5 := Lib.hid ((hb7.block (w.heap.size) (by first | (simp; done) | (simp; omega) | omega)).trans HD4.out); obtain ⟨d0, d1, d2, d3, df⟩ := box4 HD5.out; obtain ⟨r0, r1, r2, r3, rf⟩ := box4 HR5.out))
  refine bodyPost_ret (v := .tuple #[.agg #[.slice sa sn sc, .slice (some ⟨g5, 0, none⟩) (D.pend.length + 1) cap5, .int .i64 D.left, .bool D.stopped], .int .i64 0]) (by simp [results, Try.results19, go_sem, r0, r1, r2, r3]) rfl ?_
  have hbw5 : Below w.heap.size w w5 := (hb5.trans (hb6.mono (by omega))).trans (hb7.mono (by omega))
  refine RetDisk.of (D := { D with pend := D.pend ++ [⟨at_, pad b⟩] }) rfl rfl rfl (by (repeat (first | (with_reducible assumption) | exact Below.refl _ _ | refine Below.setCell ?_ (by first | (simp; done) | (simp; omega) | omega) _ | refine Below.alloc ?_ (by first | (simp; done) | (simp; omega) | omega) _ | refine Below.drew ?_ | refine below_drewN ?_ _))) fun hbF => ⟨HD.out.secs.mono (keepUp_of_below hbF), ?_, HD.out.lo, HD.out.hi⟩
  have hlen : (pad b).length = 128 := by simp only [pad, List.length_append, List.length_replicate]; have := hlb.out; omega
  have hdat : Sl eByte (fun b => (S b ∧ b < w.heap.size) ∨ w2.heap.size ≤ b) w5 (some ⟨w2.heap.size, 0, none⟩) 128 128 (pad b) := by
    have h3 : w5.heap[w2.heap.size]? = some (.cells ((pad b).map byteV).toArray 5 (0, 0)) := by
      rw [hb7.block _ (by omega), hb6.block _ (by omega), hd3.out, splice_pad b (by have := hlb.out; omega)]
    have := Sl.of_heap (S := fun b => (S b ∧ b < w.heap.size) ∨ w2.heap.size ≤ b) h3 (.inr (Nat.le_refl _)) (by omega)
    rwa [hlen] at this
  have hel : Elems eWr (fun b => (S b ∧ b < w.heap.size) ∨ w2.heap.size ≤ b) w5 (olds ++ [.int .i64 at_, .slice (some ⟨w2.heap.size, 0, none⟩) 128 128]) (D.pend ++ [⟨at_, pad b⟩]) := by
    refine (HOL.out.mono fun k hk hlt => ⟨?_, hb7.block k hlt⟩).append (Elems.single ⟨some ⟨w2.heap.size, 0, none⟩, 128, 128, rfl, h0, hdat⟩)
    rcases hk with hk | hk
    · exact .inl hk
    · exact .inr (by omega)
  obtain ⟨a6, c6, hv6, hs6⟩ := Sl.of_owns (S' := fun b => (S b ∧ b < w.heap.size) ∨ w2.heap.size ≤ b) HO5.out hel (by decide) (by simpa [eWr] using HQ2.out) (fun b hb _ => hb) (fun g hg => .inr (by have := (HO5.out.lt g hg).1; simp at this; omega))
  cases hv6
  refine hs6.mono fun k hk hlt => ⟨?_, ?_⟩
  · rcases hk with hk | hk
    · exact .inl hk.1
    · exact .inr (by omega)
  · have k1 : k ≠ w.heap.size := by rcases hk with hk | hk <;> omega
    have k2 : k ≠ w.heap.size + 1 := by rcases hk with hk | hk <;> omega
    rw [set_other _ _ _ _ _ k2, set_other _ _ _ _ _ k2, set_other _ _ _ _ _ k2, set_other _ _ _ _ _ k2, set_other _ _ _ _ _ k1]

end Go.Proofs.Ytckcdokfhdckhaa
