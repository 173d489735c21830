/- JournalSyncSpec. -/
import Derived.Test.YtmghnjahjeinnaaLc
import Derived.Test.YtmghnjahjeinnaaJour5
import Derived.Test.YtmghnjahjeinnaaJour7
namespace Go.Proofs.Ytmghnjahjeinnaa
open Go Go.RowKit Go.Kx Go.Fr

theorem rjsync_any (o : List (List UInt8)) (m s : Int) (D : Disk) (ho : o.length < 2 ^ 20) (hall : ∀ b ∈ o, b.length < 2 ^ 40) (hDI : DIn D) : FnC Try.prog 22 [jr o m s, dsk D] [] (JPost (jsyncF o m s D)) := by
  by_cases h : jbad o m s D
  · exact rjsync_bad o m s D ho hall h
  · have h1 : jOK o m s := Decidable.not_not.1 fun hn => h (.inl hn)
    have h2 : Disk.ok D = true := by
      cases e : Disk.ok D
      · exact absurd (.inr (.inl e)) h
      · rfl
    have h3 : D.stopped = false := by
      cases e : D.stopped
      · rfl
      · exact absurd (.inr (.inr (.inl e))) h
    have h4 : m = D.secs.length := Decidable.not_not.1 fun hn => h (.inr (.inr (.inr (.inl hn))))
    have h5 : D.pend.length = 0 := Decidable.not_not.1 fun hn => h (.inr (.inr (.inr (.inr hn))))
    subst h4
    obtain ⟨s, rfl⟩ := Int.eq_ofNat_of_zero_le h1.2.2.1
    exact rjsync_good o s D ho hall hDI h1 h2 h3 h5

theorem syncF_in {D : Disk} (hD : DIn D) : DIn (syncF D).1 := by
  obtain ⟨h1, h2⟩ := hD
  unfold syncF
  split
  · rename_i h
    have hl := (Disk.ok_out (by simp only [Bool.and_eq_true] at h; exact h.1)).2.2.1
    split
    · exact ⟨(by decide : (-9223372036854775808 : Int) ≤ 0), (by decide : (0 : Int) ≤ 9223372036854775807)⟩
    · unfold DIn; dsimp only
      split <;> omega
  · exact ⟨by decide, by decide⟩
theorem jsyncF_in {o : List (List UInt8)} {m s : Int} {D : Disk} (hD : DIn D) : DIn (jsyncF o m s D).1.2 := by
  have hz : DIn zeroDisk := ⟨by decide, by decide⟩
  unfold jsyncF
  repeat' split
  all_goals first | exact hz | exact hD | exact syncF_in hD
theorem jsyncF_len {o : List (List UInt8)} {m s : Int} {D : Disk} : (jsyncF o m s D).1.1.1.length ≤ o.length := by
  unfold jsyncF
  repeat' split
  all_goals first | exact Nat.le_refl _ | exact Nat.zero_le _

set_option maxHeartbeats 2000000 in
set_option maxRecDepth 100000 in
theorem jsyncSpec_any (o : List (List UInt8)) (m s : Int) (D : Disk) (ho : SmallR o) (hD : DIn D) : FnC Try.prog 5 [jr o m s, dsk D] [] (fun p loc => p = exB true ∧ loc = []) := by
  refine FnC_enter Try.func5 rfl Try.ntmps5 rfl fun w0 F0 out => ?_
  have h1 := ho.len
  have h2 := ho.all
  have h3 := ho.many
  have hF := few_any D o (by omega) (by omega)
  have hY := jsync_any o m s D h1 h2 hD
  have hR := rjsync_any o m s D h1 h2 hD
  have hlen := jsyncF_len (o := o) (m := m) (s := s) (D := D)
  have hT := dsame_fr _ (jsyncF_in (o := o) (m := m) (s := s) hD)
  generalize jsyncF o m s D = r at *
  obtain ⟨⟨⟨o2, m2, s2⟩, D2⟩, e⟩ := r
  dsimp only at hY hR hlen hT
  have hS := jsame_any o2 o2 m2 s2 m2 s2 (by omega) (by omega)
  rw [show decide (m2 = m2 ∧ s2 = s2 ∧ o2 = o2) = true by simp] at hS
  (repeat' (first | refine WP_seq ?_ | refine WP_region ?_ | refine WPL_nil ?_ | (apply WPL_t; (first | exact WT_move rfl | exact WT_assign rfl | exact WT_pick (b := true) rfl (fun _ => rfl) (fun e => by cases e) | exact WT_extract rfl rfl | (apply g_load; first | exact WT_load (k := 1) rfl rfl rfl rfl | exact WT_loada2 (k := 0) rfl rfl rfl | exact WT_loada2 (k := 1) rfl rfl rfl | exact WT_loada2 (k := 2) rfl rfl rfl | exact WT_loada2 (k := 3) rfl rfl rfl) | (apply g_fld; first | exact WT_field rfl rfl rfl) | (apply g_un; first | exact WT_not rfl)); exact rfl) | (apply WPL_gt; exact rfl; exact rfl; exact rfl; (first | exact WT_move rfl | (apply g_load; first | exact WT_loada2 (k := 0) rfl rfl rfl | exact WT_loada2 (k := 2) rfl rfl rfl) | (apply g_bin; first | exact WT_eql rfl rfl)); exact rfl) | refine WP_skip ?_ | refine WP_ret ?_ | refine WP_cond_f rfl ?_ | (apply WPL_op0; exact rfl; first | (apply g_callf; first | (refine WO_call Try.func10 rfl sane_any rfl ?_; rintro _ _ ⟨rfl, rfl⟩) | (refine WO_call Try.func11 rfl hF rfl ?_; rintro _ _ ⟨rfl, rfl⟩) | (refine WO_call Try.func21 rfl hY rfl ?_; rintro _ _ ⟨rfl, rfl⟩) | (refine WO_call Try.func22 rfl hR rfl ?_; rintro _ _ ⟨rfl, rfl⟩) | (refine WO_call Try.func14 rfl hS rfl ?_; rintro _ _ ⟨rfl, rfl⟩)) | (apply g_box; refine WO_box rfl ?_; intro _) | (apply g_alloc; refine WO_alloc ?_; intro _) | (apply g_store; first | refine WO_store (k := 0) (l0 := []) rfl rfl rfl ?_ | refine WO_store (k := 1) (l0 := []) rfl rfl rfl ?_)) | (apply WPL_on0; exact rfl; exact rfl; exact rfl; exact rfl; (apply g_callf; first | (refine WO_call Try.func23 rfl hT rfl ?_; rintro _ _ ⟨rfl, rfl⟩))) | (refine WP_cond rfl (fun hb => ?_) (fun hb => ?_) <;> (repeat (first | replace hb := not_t hb | replace hb := not_f hb)) <;> (try (exfalso; first | fail)))))
  all_goals (refine ⟨.inr rfl, ret1 rfl (.tmp rfl) (List.nil_sublist _) ⟨?_, rfl⟩⟩)
  all_goals first | rfl | exact absurd rfl hb | (simp; done)

theorem jsyncSpec_run (W : World) (a : Option Addr) (n c : Nat) (o : List (List UInt8)) (m s : Int) (sa : Option Addr) (sn sc : Nat) (pa : Option Addr) (pn pc : Nat) (D : Disk) (h : Sl (eSl eByte) (fun _ => True) W a n c o) (hs : SmallR o) (hD : DiskAt (fun _ => True) W sa sn sc pa pn pc D) :
    Calls Try.prog 5 #[.agg #[.slice a n c, .int .i64 m, .int .i64 s], .agg #[.slice sa sn sc, .slice pa pn pc, .int .i64 D.left, .bool D.stopped]] W fun e w' => e = .returned (.bool true) ∧ Below W.heap.size W w' :=
  law_of (jsyncSpec_any o m s D hs ⟨hD.lo, hD.hi⟩) (.cons (jr_to h) (.cons (dsk_to hD.secs hD.pend) .nil))

end Go.Proofs.Ytmghnjahjeinnaa
