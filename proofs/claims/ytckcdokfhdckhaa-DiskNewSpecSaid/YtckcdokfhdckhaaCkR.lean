/- The walk of the reference's New. -/
import Derived.Test.YtckcdokfhdckhaaRows
import Derived.Test.YtckcdokfhdckhaaCkU
import Derived.Test.YtckcdokfhdckhaaCkL
import Derived.WalkKit
import Derived.WalkLawsBesides
import Derived.WalkSpells
import Derived.Outline
import Derived.Lib.Hide
import Derived.Laws.CopyOwn
import Derived.Deep.OwnRows
import Derived.Deep.RegionLaw
import Derived.Deep.AppendLies
namespace Go.Proofs.Ytckcdokfhdckhaa
open Go.RowKit Go.Kx

theorem slice_one (a : Option Addr) (n c : Nat) : ∀ u ∈ [Value.slice a n c], u.oneCell' = true := by
  intro u hu
  simp only [List.mem_cons, List.not_mem_nil, or_false] at hu
  subst hu; rfl

theorem one_at (w : World) (v : Value) (t : TypeId) (g : Nat) (hg : g = w.heap.size) : ∀ j u, [v][j]? = some u → (w.alloc (.cells #[v] t)).cell? ((⟨g, 0, none⟩ : Addr).add j) = some u := by
  subst hg; exact one_new w v t

set_option maxRecDepth 100000 in
set_option maxHeartbeats 4000000 in
theorem rnew_any (S : Nat → Prop) (w : World) (n : Int) : Calls Try.prog 13 #[.int .i64 n] w (RetDisk S w (newF n)) := by
  by_cases hin : n < 1 ∨ 4096 < n
  · have e : newF n = (zeroDisk, 1) := by unfold newF; rw [if_pos (by simpa using hin)]
    have HE := Lib.hid e
    clear e
    by_cases h1 : n < 1
    · clear hin
      go_enter Try.func13, Try.ntmps13
      go_wp2
      refine bodyPost_ret (v := .tuple #[.agg #[.slice none 0 0, .slice none 0 0, .int .i64 0, .bool false], .int .i64 1]) (by simp [results, Try.results13, go_sem]) rfl ?_
      exact RetDisk.zero HE.out (by (repeat (first | (with_reducible assumption) | exact Below.refl _ _ | refine Below.setCell ?_ (by first | (simp; done) | (simp; omega) | omega) _ | refine Below.alloc ?_ (by first | (simp; done) | (simp; omega) | omega) _ | refine Below.drew ?_ | refine below_drewN ?_ _)))
    · have h2 : 4096 < n := by omega
      clear hin
      go_enter Try.func13, Try.ntmps13
      go_wp2
      refine bodyPost_ret (v := .tuple #[.agg #[.slice none 0 0, .slice none 0 0, .int .i64 0, .bool false], .int .i64 1]) (by simp [results, Try.results13, go_sem]) rfl ?_
      exact RetDisk.zero HE.out (by (repeat (first | (with_reducible assumption) | exact Below.refl _ _ | refine Below.setCell ?_ (by first | (simp; done) | (simp; omega) | omega) _ | refine Below.alloc ?_ (by first | (simp; done) | (simp; omega) | omega) _ | refine Below.drew ?_ | refine below_drewN ?_ _)))
  · have h1 : 1 ≤ n := by omega
    obtain ⟨N, rfl⟩ := Int.eq_ofNat_of_zero_le (show 0 ≤ n by omega)
    have e : newF N = (⟨List.replicate N (List.replicate 128 0), [], -1, false⟩, 0) := by unfold newF; rw [if_neg (by simp; omega)]; rfl
    have HE := Lib.hid e
    have hN2 : N ≤ 4096 := by omega
    have hmk : ∀ w, (Instr.makeSlice 35 (.int .i64 128) (.int .i64 128)).run Try.prog w = .ok (.slice (some ⟨w.heap.size, 0, none⟩) 128 128) (w.alloc (.cells zeros 5)) := fun w => run_make_row' (P := Try.prog) 35 5 (.int .u8 0) 1 Try.underlying35 cloneY_info rfl .i64 .i64 128 (by decide) (by decide) w
    have hd1 : decide ((N : Int) < 1) = false := by simp; omega
    have hd2 : decide ((4096 : Int) < (N : Int)) = false := by simp; omega
    clear e hin h1
    obtain ⟨i0, hi, hz0, hz1, hz2⟩ := info_parts cloneB_info
    go_enter Try.func13, Try.ntmps13
    go_wp2
    go_loopw [5] (fun i wr => ∃ (k : Nat) (v : Value) (xs : List Value), k ≤ N ∧ i = .int .i64 k ∧ Hid (wr.ownsRow (w.heap.size + 2) 35 1 v k xs) ∧ Hid (Elems (eSl eByte) (fun b => w.heap.size + 2 ≤ b ∧ v.ownBlock ≠ some b) wr xs (List.replicate k (List.replicate 128 0))) ∧
      Hid (wr.heap[w.heap.size + 1]? = some (.cells #[v, .slice none 0 0, .int .i64 (-1), .bool false] 25 (0, 0))) ∧ Hid (wr.heap[w.heap.size]? = some (.cells #[.slice none 0 0, .slice none 0 0, .int .i64 0, .bool false] 25 (0, 0))) ∧ Below w.heap.size w wr ∧ w.heap.size + 2 ≤ wr.heap.size) (fun i _ => N - (intOf i).toNat)
    case atStart =>
      refine ⟨0, .slice none 0 0, [], by omega, rfl, ?_, Elems.nil, heap_alloc_at _ _ _ (by simp), (Below.heap_alloc _ _ _ (by simp)).trans (heap_alloc_at _ _ _ rfl), by (repeat (first | (with_reducible assumption) | exact Below.refl _ _ | refine Below.setCell ?_ (by first | (simp; done) | (simp; omega) | omega) _ | refine Below.alloc ?_ (by first | (simp; done) | (simp; omega) | omega) _ | refine Below.drew ?_ | refine below_drewN ?_ _)), by simp⟩
      exact ⟨rfl, .inl ⟨rfl, rfl⟩⟩
    case round =>
      obtain ⟨k, v, xs, hk, rfl, HO, HEL, HB, HR, hbr, hzr⟩ := hrel
      obtain ⟨a, c, rfl⟩ := own_form HO.out
      obtain ⟨d0, d1, d2, d3, df⟩ := box4 HB.out
      have hz1' : w.heap.size + 1 < wr.heap.size := by omega
      have hz0' : w.heap.size < wr.heap.size := by omega
      by_cases hlt : k < N
      · have HOD : Hid (∀ A B, (((wr.alloc A).alloc B).drew).ownsRow (w.heap.size + 2) 35 1 (.slice a k c) k xs) := fun A B => (HO.out.alloc A).alloc B
        have HCD : Hid (∀ A, ∀ j u, [Value.slice (some ⟨wr.heap.size, 0, none⟩) 128 128][j]? = some u → (((wr.alloc A).alloc (.cells #[.slice (some ⟨wr.heap.size, 0, none⟩) 128 128] 35)).drew).cell? ((⟨wr.heap.size + 1, 0, none⟩ : Addr).add j) = some u) := fun A => one_at (wr.alloc A) _ 35 _ (by simp)
        have hq1 : k + 1 ≤ maxLen := by simp only [maxLen]; omega
        have HQ1 := Lib.hid hq1
        clear hq1
        have hnone := fun g hg => (HO.out.lt g hg).1
        have HNONE := Lib.hid hnone
        clear hnone
        go_wp2
        go_region_law (refine step_append_lies _ rfl (.tmp 20) (.tmp 22) 22 rfl (w.heap.size + 2) 35 i0 (.slice none 0 0) 1 24 Try.underlying22 hi hz0 hz1 hz2 rfl (by decide) (.slice a k c) k xs (by simp [Act.eval]) (HOD.out _ _) ⟨wr.heap.size + 1, 0, none⟩ 1 1 [.slice (some ⟨wr.heap.size, 0, none⟩) 128 128] (by simp [Act.eval]) rfl (HCD.out _) (slice_one _ _ _) (by decide) HQ1.out (by omega) (by simp; omega) (wr.heap.size + 2) (by simp) ?_; intro g cap w4 hown4 hgrow4 hg4 hlt4; have b4 : Below (w.heap.size + 2) wr w4 := Below.grown (Below.drew (((Below.refl _ _).alloc hzr _).alloc (by simp; omega) _)) hgrow4 (by simp; omega) (fun g' hg' => HNONE.out g' hg'); have HO4 := Lib.hid hown4; have HG4 := Lib.hid hgrow4; have HGG := Lib.hid hg4; clear hown4 hgrow4 hg4 hlt4 d0 d1 d2 d3 df; obtain ⟨d0, d1, d2, d3, df⟩ := box4 ((b4.block (w.heap.size + 1) (by omega)).trans HB.out))
        all_goals
          go_wp2
          have hzz4 : wr.heap.size + 2 ≤ w4.heap.size := by have := HG4.out.size; simp at this; omega
          have key : ∀ b, w.heap.size + 2 ≤ b → (w4.setCell ⟨w.heap.size + 1, 0, none⟩ (.slice (some ⟨g, 0, none⟩) (k + 1) cap)).heap[b]? = w4.heap[b]? := fun b hb => set_other _ _ _ _ _ (by omega)
          have hold : ∀ b, w.heap.size + 2 ≤ b ∧ (Value.slice a k c).ownBlock ≠ some b → b < wr.heap.size → (w.heap.size + 2 ≤ b ∧ (Value.slice (some ⟨g, 0, none⟩) (k + 1) cap).ownBlock ≠ some b) ∧ (w4.setCell ⟨w.heap.size + 1, 0, none⟩ (.slice (some ⟨g, 0, none⟩) (k + 1) cap)).heap[b]? = wr.heap[b]? := fun b hb hlt' => by
            refine ⟨⟨hb.1, fun e => ?_⟩, (key b hb.1).trans ((HG4.out.block b (by simp; omega) (fun e => hb.2 e.symm)).trans ?_)⟩
            · have e' : g = b := by simpa [Value.ownBlock] using e
              rcases HGG.out with h | h
              · exact hb.2 (by rw [h, e'])
              · omega
            · exact (Below.alloc (Below.alloc (Below.refl wr.heap.size wr) (Nat.le_refl _) _) (by simp) _).block b hlt'
          have hg4 : g ≠ wr.heap.size := by
            rcases HGG.out with h | h
            · have := (HO.out.lt g h).2; omega
            · omega
          have hnew : Sl eByte (fun b => w.heap.size + 2 ≤ b ∧ (Value.slice (some ⟨g, 0, none⟩) (k + 1) cap).ownBlock ≠ some b) (w4.setCell ⟨w.heap.size + 1, 0, none⟩ (.slice (some ⟨g, 0, none⟩) (k + 1) cap)) (some ⟨wr.heap.size, 0, none⟩) 128 128 (List.replicate 128 0) := by
            refine zeros_sl ((key _ hzr).trans ((HG4.out.block wr.heap.size (by simp; omega) (fun e => ?_)).trans ?_)) ⟨hzr, fun e => ?_⟩
            · have := (HO.out.lt _ e.symm).2; omega
            · exact (Below.heap_alloc _ _ _ (by simp)).trans (heap_alloc_at _ _ _ rfl)
            · exact hg4 (by simpa [Value.ownBlock] using e)
          have hlow : w.heap.size + 1 < w.heap.size + 2 := by omega
          have HO5 := Lib.hid (ownsRow_setCell_below (a := ⟨w.heap.size + 1, 0, none⟩) HO4.out hlow (.slice (some ⟨g, 0, none⟩) (k + 1) cap))
          refine ⟨⟨k + 1, .slice (some ⟨g, 0, none⟩) (k + 1) cap, xs ++ [Value.slice (some ⟨wr.heap.size, 0, none⟩) 128 128], by omega, by go_num, HO5, ?_, ?_, ?_, ?_, ?_⟩, by simp [intOf]; omega⟩
          · have := (HEL.out.mono hold).append (Elems.single ⟨_, _, _, rfl, hnew⟩)
            rw [← List.replicate_succ'] at this
            exact this
          · have e : w4.heap[w.heap.size + 1]? = _ := (b4.block (w.heap.size + 1) (by omega)).trans HB.out
            simp [Hid, World.setCell, Array.getElem?_modify, e]
          · exact (set_other _ _ _ _ _ (by omega)).trans ((b4.block w.heap.size (by omega)).trans HR.out)
          · exact (hbr.trans (b4.mono (by omega))).setCell (p := ⟨w.heap.size + 1, 0, none⟩) (by simp) _
          · simp; omega
      · obtain rfl : k = N := by omega
        obtain ⟨r0, r1, r2, r3, rf⟩ := box4 HR.out
        go_wp2
        refine bodyPost_ret (v := .tuple #[.agg #[.slice a k c, .slice none 0 0, .int .i64 (-1), .bool false], .int .i64 0]) (by simp [results, Try.results13, go_sem, r0, r1, r2, r3]) rfl ?_
        have hl : Sl (eSl eByte) (fun b => w.heap.size + 2 ≤ b) wr a k c (List.replicate k (List.replicate 128 0)) := by
          obtain ⟨a', c', hv, hs⟩ := Sl.of_owns (S' := fun b => w.heap.size + 2 ≤ b) HO.out HEL.out (by decide) (by simp [eSl]; omega) (fun b hb _ => hb.1) (fun g hg => (HO.out.lt g hg).1)
          cases hv
          exact hs
        refine RetDisk.of (D := ⟨List.replicate k (List.replicate 128 0), [], -1, false⟩) HE.out rfl rfl (by (repeat (first | (with_reducible assumption) | exact Below.refl _ _ | refine Below.setCell ?_ (by first | (simp; done) | (simp; omega) | omega) _ | refine Below.alloc ?_ (by first | (simp; done) | (simp; omega) | omega) _ | refine Below.drew ?_ | refine below_drewN ?_ _))) fun hb => ⟨?_, Sl.zero _ _ _, by show (-9223372036854775808 : Int) ≤ -1; decide, by show (-1 : Int) ≤ 9223372036854775807; decide⟩
        refine hl.mono fun b hb hlt' => ⟨.inr (by omega), ?_⟩
        exact (set4 HR.out).2 b (by omega)

end Go.Proofs.Ytckcdokfhdckhaa
