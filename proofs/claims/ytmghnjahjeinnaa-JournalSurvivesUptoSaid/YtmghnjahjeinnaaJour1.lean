/- The journal's small functions. -/
import Derived.Test.YtmghnjahjeinnaaRows
import Derived.Test.YtmghnjahjeinnaaFrame2
import Derived.Test.YtmghnjahjeinnaaTi
import Derived.IntWalk
namespace Go.Proofs.Ytmghnjahjeinnaa
open Go Go.RowKit Go.Kx Go.Fr

/-- The number that bytes represent, in 64 bits. -/
def getF (l : List UInt8) : Nat := l.foldl (fun n c => (n * 2 ^ 8 % 2 ^ 64) ||| c.toNat) 0
theorem getF_lt (l : List UInt8) : getF l < 2 ^ 64 := by
  have key : ∀ (l : List UInt8) (n : Nat), n < 2 ^ 64 → l.foldl (fun n c => (n * 2 ^ 8 % 2 ^ 64) ||| c.toNat) n < 2 ^ 64 := by
    intro l
    induction l with
    | nil => intro n h; exact h
    | cons c l ih =>
      intro n _
      refine ih _ (Nat.or_lt_two_pow (Nat.mod_lt _ (by decide)) ?_)
      have := c.toNat_lt; omega
  exact key l 0 (by decide)
theorem getF_snoc (l : List UInt8) (k : Nat) (h : k < l.length) : getF (l.take (k + 1)) = (getF (l.take k) * 2 ^ 8 % 2 ^ 64) ||| l[k].toNat := by
  rw [List.take_succ_eq_append_getElem h]; unfold getF; rw [List.foldl_append]; rfl

set_option maxRecDepth 100000 in
theorem get_any (l : List UInt8) (hl : l.length ≤ 9223372036854775807) : FnC Try.prog 41 [isl eByte l] [] (fun p loc => p = exI .u64 (getF l) ∧ loc = []) := by
  refine FnC_enter Try.func41 rfl Try.ntmps41 rfl fun w0 F0 out => ?_
  (repeat' (first | refine WP_seq ?_ | refine WP_region ?_ | refine WPL_nil ?_ | (apply WPL_t; (first | exact WT_move rfl | exact WT_assign rfl | (apply g_call; first | exact WT_len rfl rfl)); exact rfl) | refine WP_block ?_))
  refine WP_loop (fun k : Nat => ([(5, isl eByte l), (6, exI .i64 l.length), (7, exI .i64 k), (2, exI .u64 (getF (l.take k)))], [])) (fun k => k ≤ l.length) (fun k => l.length - k) 0 ?_ (by omega) fun k hk => ?_
  · exact Leads_env (sub_cons rfl (sub_cons rfl (sub_cons rfl (sub_cons rfl sub_nil)))) (List.Sublist.refl _)
  have hg := getF_lt (l.take k)
  (repeat' (first | refine WP_seq ?_ | refine WP_region ?_ | refine WPL_nil ?_ | (apply WPL_t; (first | exact WT_move rfl | exact WT_assign rfl | (apply g_load; first | exact WT_loadf rfl rfl) | (apply g_bin; first | exact WT_lss rfl rfl | exact WT_add rfl rfl | exact WT_or rfl rfl | exact WT_shl rfl rfl) | (apply g_index; first | exact WT_index rfl rfl rfl) | (apply g_conv; first | exact WT_convb rfl rfl rfl)); exact rfl) | refine WP_block ?_ | refine WP_skip ?_ | refine WP_ret ?_ | refine WP_exit ?_ | (refine WP_cond rfl (fun hb => ?_) (fun hb => ?_) <;> (repeat (first | replace hb := dec_t hb | replace hb := dec_f hb)) <;> (try (exfalso; first | fail)))))
  · have hkl : k < l.length := by omega
    refine ⟨k + 1, by omega, by omega, Leads_env (sub_cons rfl (sub_cons rfl (sub_cons rfl (sub_cons ?_ sub_nil)))) (List.Sublist.refl _)⟩
    rw [getF_snoc l k hkl]
    rfl
  · refine ⟨.inr rfl, ret1 rfl (.tmp rfl) (List.nil_sublist _) ⟨?_, rfl⟩⟩
    rw [List.take_of_length_le (by omega)]

/-- The checksum. -/
def crcBit (n : Nat) : Nat := (n / 2 ^ 1) ^^^ (3988292384 * (n &&& 1) % 2 ^ 32)
def crcBits : Nat → Nat → Nat
  | 0, n => n
  | k + 1, n => crcBit (crcBits k n)
def crcF (l : List UInt8) : Nat := l.foldl (fun n c => crcBits 8 (n ^^^ c.toNat)) 4294967295
def sumF (l : List UInt8) : Nat := (2 ^ 32 - 1) ^^^ crcF l

theorem crcBit_lt (n : Nat) (h : n < 2 ^ 32) : crcBit n < 2 ^ 32 := by
  unfold crcBit
  exact Nat.xor_lt_two_pow (by omega) (Nat.mod_lt _ (by decide))
theorem crcBits_lt (k n : Nat) (h : n < 2 ^ 32) : crcBits k n < 2 ^ 32 := by
  induction k with
  | zero => exact h
  | succ k ih => exact crcBit_lt _ ih
theorem crc_lt (l : List UInt8) : crcF l < 2 ^ 32 := by
  have key : ∀ (l : List UInt8) (n : Nat), n < 2 ^ 32 → l.foldl (fun n c => crcBits 8 (n ^^^ c.toNat)) n < 2 ^ 32 := by
    intro l
    induction l with
    | nil => intro n h; exact h
    | cons c l ih =>
      intro n h
      exact ih _ (crcBits_lt _ _ (Nat.xor_lt_two_pow h (by have := c.toNat_lt; omega)))
  exact key l _ (by decide)
theorem sum_lt (l : List UInt8) : sumF l < 2 ^ 32 := Nat.xor_lt_two_pow (by decide) (crc_lt l)
theorem crc_snoc (l : List UInt8) (k : Nat) (h : k < l.length) : crcF (l.take (k + 1)) = crcBits 8 (crcF (l.take k) ^^^ l[k].toNat) := by
  rw [List.take_succ_eq_append_getElem h]; unfold crcF; rw [List.foldl_append]; rfl

set_option maxRecDepth 100000 in
theorem sum_any (l : List UInt8) (hl : l.length ≤ 9223372036854775807) : FnC Try.prog 65 [isl eByte l] [] (fun p loc => p = exI .u32 (sumF l) ∧ loc = []) := by
  refine FnC_enter Try.func65 rfl Try.ntmps65 rfl fun w0 F0 out => ?_
  (repeat' (first | refine WP_seq ?_ | refine WP_region ?_ | refine WPL_nil ?_ | (apply WPL_t; (first | exact WT_move rfl | exact WT_assign rfl | (apply g_call; first | exact WT_len rfl rfl)); exact rfl) | refine WP_block ?_))
  refine WP_loop (fun k : Nat => ([(6, isl eByte l), (7, exI .i64 l.length), (8, exI .i64 k), (3, exI .u32 (crcF (l.take k)))], [])) (fun k => k ≤ l.length) (fun k => l.length - k) 0 ?_ (by omega) fun k hk => ?_
  · exact Leads_env (sub_cons rfl (sub_cons rfl (sub_cons rfl (sub_cons rfl sub_nil)))) (List.Sublist.refl _)
  have hg := crc_lt (l.take k)
  (repeat' (first | refine WP_seq ?_ | refine WP_region ?_ | refine WPL_nil ?_ | (apply WPL_t; (first | exact WT_move rfl | exact WT_assign rfl | (apply g_load; first | exact WT_loadf rfl rfl) | (apply g_bin; first | exact WT_lss rfl rfl | exact WT_xor rfl rfl) | (apply g_index; first | exact WT_index rfl rfl rfl) | (apply g_conv; first | exact WT_convb rfl rfl rfl) | (apply g_un; first | exact WT_com rfl)); exact rfl) | refine WP_block ?_ | refine WP_skip ?_ | refine WP_ret ?_ | refine WP_exit ?_ | (refine WP_cond rfl (fun hb => ?_) (fun hb => ?_) <;> (repeat (first | replace hb := dec_t hb | replace hb := dec_f hb)) <;> (try (exfalso; first | fail)))))
  · have hkl : k < l.length := by omega
    have hg2 : crcF (l.take k) ^^^ l[k].toNat < 2 ^ 32 := Nat.xor_lt_two_pow hg (by have := l[k].toNat_lt; omega)
    refine WP_loop (fun i : Nat => ([(6, isl eByte l), (7, exI .i64 l.length), (8, exI .i64 k), (3, exI .u32 (crcBits i (crcF (l.take k) ^^^ l[k].toNat))), (16, exI .i64 i)], [])) (fun i => i ≤ 8) (fun i => 8 - i) 0 ?_ (by omega) fun i hi => ?_
    · exact Leads_env (sub_cons rfl (sub_cons rfl (sub_cons rfl (sub_cons rfl (sub_cons rfl sub_nil))))) (List.Sublist.refl _)
    have hg3 := crcBits_lt i _ hg2
    (repeat' (first | refine WP_seq ?_ | refine WP_region ?_ | refine WPL_nil ?_ | (apply WPL_t; (first | exact WT_move rfl | exact WT_assign rfl | (apply g_bin; first | exact WT_lss rfl rfl | exact WT_mulu rfl rfl | exact WT_add rfl rfl | exact WT_and rfl rfl | exact WT_xor rfl rfl | exact WT_shr rfl rfl)); exact rfl) | refine WP_block ?_ | refine WP_skip ?_ | refine WP_exit ?_ | (refine WP_cond rfl (fun hb => ?_) (fun hb => ?_) <;> (repeat (first | replace hb := dec_t hb | replace hb := dec_f hb)) <;> (try (exfalso; first | fail)))))
    · exact ⟨i + 1, by omega, by omega, Leads_env (sub_cons rfl (sub_cons rfl (sub_cons rfl (sub_cons rfl (sub_cons rfl sub_nil))))) (List.Sublist.refl _)⟩
    · obtain rfl : i = 8 := by omega
      exact ⟨k + 1, by omega, by omega, Leads_env (sub_cons rfl (sub_cons rfl (sub_cons rfl (sub_cons (by rw [crc_snoc l k hkl]; rfl) sub_nil)))) (List.Sublist.refl _)⟩
  · refine ⟨.inr rfl, ret1 rfl (.tmp rfl) (List.nil_sublist _) ⟨?_, rfl⟩⟩
    rw [List.take_of_length_le (by omega)]
    rfl

end Go.Proofs.Ytmghnjahjeinnaa

/- The journal's put and encode. -/
namespace Go.Proofs.Ytmghnjahjeinnaa
open Go Go.RowKit Go.Kx Go.Fr

/-- The bytes of a number, the most significant one first. -/
def numB (m n : Nat) : List UInt8 := (List.range m).map fun j => UInt8.ofNat (n / 2 ^ (8 * (m - 1 - j)))
theorem numB_length (m n : Nat) : (numB m n).length = m := by simp [numB]
theorem numB_drop (m n i : Nat) (h : i < m) : (numB m n).drop (m - (i + 1)) = UInt8.ofNat (n / 2 ^ (8 * i)) :: (numB m n).drop (m - i) := by
  have hl : m - (i + 1) < (numB m n).length := by rw [numB_length]; omega
  rw [List.drop_eq_getElem_cons hl]
  congr 1
  · simp only [numB, List.getElem_map, List.getElem_range]
    rw [show m - 1 - (m - (i + 1)) = i by omega]
  · congr 1; omega

set_option maxRecDepth 100000 in
theorem put_any (b T tot off m c n : Nat) (bs : List UInt8) (hm : off + m ≤ bs.length) (hm8 : m ≤ 8) : FnC Try.prog 64 [ex (.slice (some ⟨b, off, none⟩) m c), exI .u64 n] [row b T tot (bs.map ub)] (fun p loc => p = ex (.tuple #[]) ∧ ∃ bs', loc = [row b T tot (bs'.map ub)] ∧ bs' = over bs off (numB m n) ∧ bs'.length = bs.length) := by
  refine FnC_enter Try.func64 rfl Try.ntmps64 rfl fun w0 F0 out => ?_
  (repeat' (first | refine WP_seq ?_ | refine WP_region ?_ | refine WPL_nil ?_ | (apply WPL_t; (first | exact WT_move rfl | (apply g_call; first | exact WT_lenv rfl rfl)); exact rfl) | refine WP_block ?_))
  refine WP_loop (fun i : Nat => ([(0, ex (.slice (some ⟨b, off, none⟩) m c)), (1, exI .u64 n), (6, exI .i64 m), (7, exI .i64 i)], [row b T tot ((over bs (off + (m - i)) ((numB m n).drop (m - i))).map ub)])) (fun i => i ≤ m) (fun i => m - i) 0 ?_ (by omega) fun i hi => ?_
  · refine Leads_env (sub_cons rfl (sub_cons rfl (sub_cons rfl (sub_cons rfl sub_nil)))) ?_
    have : over bs (off + (m - 0)) ((numB m n).drop (m - 0)) = bs := by
      rw [Nat.sub_zero, List.drop_of_length_le (by rw [numB_length]; omega)]; simp [over]
    rw [this]; exact List.Sublist.refl _
  have hlen : (over bs (off + (m - i)) ((numB m n).drop (m - i))).length = bs.length := over_length _ _ _ (by rw [List.length_drop, numB_length]; omega)
  (repeat' (first | refine WP_seq ?_ | refine WP_region ?_ | refine WPL_nil ?_ | (apply WPL_t; (first | exact WT_move rfl | exact WT_assign rfl | (apply g_bin; first | exact WT_lss rfl rfl | exact WT_add rfl rfl | exact WT_sub rfl rfl | exact WT_mul rfl rfl | exact WT_shr rfl rfl) | (apply g_index; first | exact WT_indexoz rfl rfl rfl) | (apply g_conv; first | exact WT_convu8 rfl rfl rfl) | (apply g_call; first | exact WT_lenv rfl rfl)); exact rfl) | refine WP_block ?_ | refine WP_skip ?_ | refine WP_exit ?_ | (apply WPL_op0; exact rfl; first | (apply g_store; first | (refine WO_storeB (k := 0) (l0 := []) rfl rfl rfl ?_; intro _ _ _))) | (refine WP_cond rfl (fun hb => ?_) (fun hb => ?_) <;> (repeat (first | replace hb := dec_t hb | replace hb := dec_f hb)) <;> (try (exfalso; first | fail)))))
  · rename_i bs' hbs' hl'
    refine ⟨i + 1, by omega, by omega, Leads_env (sub_cons rfl (sub_cons rfl (sub_cons rfl (sub_cons rfl sub_nil)))) ?_⟩
    have e1 : ((m : Int) - 1 - (i : Int)).toNat = m - (i + 1) := by omega
    have e2 : over bs (off + (m - (i + 1))) ((numB m n).drop (m - (i + 1))) = bs' := by
      rw [hbs', numB_drop m n i (by omega), ← over_step _ _ _ _ (by rw [List.length_drop, numB_length]; omega), e1, Nat.mul_one, show off + (m - (i + 1)) + 1 = off + (m - i) by omega]
    rw [e2]
    exact List.Sublist.refl _
  · obtain rfl : i = m := by omega
    refine ⟨.inl rfl, ret0 rfl (List.Sublist.refl _) ⟨rfl, _, rfl, ?_, hlen⟩⟩
    rw [Nat.sub_self, Nat.add_zero, List.drop_zero]

/-- A sector of the journal. -/
def encF (gen k : Nat) (kind : UInt8) (b : List UInt8) : List UInt8 :=
  let s1 := over (List.replicate 128 0) 0 (numB 4 gen)
  let s2 := over s1 8 (numB 2 k)
  let s3 := over s2 10 [kind]
  let s4 := over s3 11 [UInt8.ofNat b.length]
  let s5 := over s4 12 b
  let s6 := over s5 124 (numB 4 gen)
  over s6 4 (numB 4 (sumF ((s6.drop 8).take 116)))

set_option maxRecDepth 100000 in
theorem encode_any (gen k : Nat) (kind : UInt8) (b : List UInt8) (hb : b.length ≤ 112) (hg : gen < 2 ^ 64) (hk : k < 2 ^ 63) : FnC Try.prog 44 [exI .u64 gen, exI .i64 k, exI .u8 kind.toNat, isl eByte b] [] (fun p loc => p = isl eByte (encF gen k kind b) ∧ loc = []) := by
  refine FnC_enter Try.func44 rfl Try.ntmps44 rfl fun w0 F0 out => ?_
  (repeat' (first | refine WP_seq ?_ | refine WP_region ?_ | refine WPL_nil ?_ | (apply WPL_t; (first | exact WT_move rfl | exact WT_assign rfl | (apply g_slice; first | exact WT_slca rfl rfl ⟨_, _, rfl, Nt.h⟩ rfl)); exact rfl) | (apply WPL_op0; exact rfl; first | (apply g_alloc; refine WO_alloc ?_; intro _))))
  refine WPL_zero (n := 128) rfl rfl rfl fun s0 h0 hl0 => ?_
  (repeat' (first | refine WP_seq ?_ | refine WP_region ?_ | refine WPL_nil ?_ | (apply WPL_t; (first | exact WT_move rfl | (apply g_index; first | exact WT_indexa rfl rfl rfl) | (apply g_slice; first | exact WT_slca rfl ⟨_, _, rfl, Nt.h⟩ ⟨_, _, rfl, Nt.h⟩ rfl | exact WT_slca rfl ⟨_, _, rfl, Nt.h⟩ rfl rfl) | (apply g_conv; first | exact WT_convu8 rfl rfl rfl | exact WT_convu rfl rfl rfl) | (apply g_call; first | exact WT_len rfl rfl)); exact rfl) | (apply WPL_op0; exact rfl; first | (apply g_callf; first | (refine WO_call1 (k := 0) rfl Try.func64 rfl (put_any _ _ _ _ _ _ _ _ (by first | omega) (by decide)) rfl ?_; rintro _ _ ⟨rfl, _, rfl, _, _⟩)) | (apply g_store; first | (refine WO_storeB (k := 0) (l0 := []) rfl rfl rfl ?_; intro _ _ _)) | (apply g_copy; (first | (refine WO_copyB (k := 0) (l0 := []) rfl rfl rfl rfl ?_; intro _ _ _))))))
  (refine WP_draw [] 5 rfl ?_)
  all_goals ((apply WPY_pure 0 rfl (by decide +kernel) rfl (by repeat (first | exact np_ret)) guard_none; (first | (apply g_slice; first | exact WT_slca rfl ⟨_, _, rfl, Nt.h⟩ ⟨_, _, rfl, Nt.h⟩ rfl)); exact rfl))
  all_goals ((apply WPY_pure 1 rfl (by decide +kernel) rfl (by repeat (first | exact np_ret)) guard_none; (first | (apply g_slice; first | exact WT_slca rfl ⟨_, _, rfl, Nt.h⟩ ⟨_, _, rfl, Nt.h⟩ rfl)); exact rfl))
  all_goals (first | (apply WPY_one 2; exact (by decide +kernel); exact rfl; exact guard_none; exact (fun _ _ h => h); first | (apply g_callf; first | (refine WO_callb (k := 0) rfl Try.func65 rfl (sum_any _ (by simp only [List.length_take, List.length_drop]; omega)) (ArgB.bytes rfl .nil) (fun _ _ h => ⟨h.2, _, h.1⟩) ?_; rintro _ ⟨h, _⟩; obtain rfl := ex_inj h))))
  all_goals (first | (apply WPY_pure 3 rfl (by decide +kernel) rfl (by repeat (first | exact np_ret)) guard_none; (first | (apply g_conv; first | exact WT_convu rfl rfl rfl)); exact rfl))
  all_goals (first | (apply WPY_one 4; exact (by decide +kernel); exact rfl; exact guard_none; exact (fun _ _ h => h); first | (apply g_callf; first | (refine WO_call1 (k := 0) rfl Try.func64 rfl (put_any _ _ _ _ _ _ _ _ (by first | omega) (by decide)) rfl ?_; rintro _ _ ⟨rfl, _, rfl, _, _⟩))))
  all_goals (refine WPY_done (by decide +kernel) ?_)
  (repeat' (first | refine WP_seq ?_ | refine WP_region ?_ | refine WPL_nil ?_ | (apply WPL_t; (first | exact WT_assign rfl | (apply g_slice; first | exact WT_slca rfl rfl rfl rfl)); exact rfl) | refine WP_ret ?_))
  apply retP_leads
  · apply Leads_bytes (l1 := []) (l2 := []) (t := 8) <;> first | exact rfl | omega | decide
  · refine ⟨.inr rfl, ret1 rfl (.tmp rfl) (List.Sublist.refl _) ⟨congrArg _ ?_, rfl⟩⟩
    have hk2 : k % 2 ^ IntKind.u64.bits = k := Nat.mod_eq_of_lt (by simp only [IntKind.bits]; omega)
    have hs2 : ∀ l : List UInt8, sumF l % 2 ^ IntKind.u64.bits = sumF l := fun l => Nat.mod_eq_of_lt (by have := sum_lt l; simp only [IntKind.bits]; omega)
    have hm : min b.length (128 - 12) = b.length := by omega
    subst_vars
    rw [hk2, hs2, hm, List.take_of_length_le (Nat.le_refl _)]
    rfl

end Go.Proofs.Ytmghnjahjeinnaa

/- bytes.Equal and the journal's good. -/
namespace Go.Proofs.Ytmghnjahjeinnaa
open Go Go.RowKit Go.Kx Go.Fr

set_option maxRecDepth 100000 in
theorem equal_any (l m : List UInt8) : FnC Try.prog 43 [isl eByte l, isl eByte m] [] (fun p loc => p = exB (l == m) ∧ loc = []) := by
  refine FnC_enter Try.func43 rfl Try.ntmps43 rfl fun w0 F0 out => ?_
  (repeat' (first | refine WP_seq ?_ | refine WP_region ?_ | refine WPL_nil ?_ | (apply WPL_t; (first | exact WT_move rfl | exact WT_assign rfl | (apply g_bin; first | exact WT_seq rfl rfl) | (apply g_conv; first | exact WT_b2s rfl rfl rfl rfl)); exact rfl) | refine WP_ret ?_))
  refine ⟨.inr rfl, ret1 rfl (.tmp rfl) (List.nil_sublist _) ⟨?_, rfl⟩⟩
  congr 1
  rw [Bool.eq_iff_iff]
  simp

/-- Of a sector's kind k and the number e of its bytes. -/
def preF (e k : Nat) : Bool := decide (e ≤ 112) && (decide (k ≤ 3) && ((decide (k &&& 2 ≠ 0) || decide (112 ≤ e)) && (decide (k &&& 1 ≠ 0) || decide (e ≠ 0))))
def goodF (s : List UInt8) (n : Nat) : Bool :=
  preF (s[11]?.getD 0).toNat (s[10]?.getD 0).toNat && (decide (0 < getF (s.take 4)) && s == encF (getF (s.take 4)) n (s[10]?.getD 0) ((s.drop 12).take (s[11]?.getD 0).toNat))

set_option maxHeartbeats 1000000 in
set_option maxRecDepth 100000 in
theorem good_any (s : List UInt8) (n : Nat) (hs : s.length = 128) (hn : n < 2 ^ 63) : FnC Try.prog 61 [isl eByte s, exI .i64 n] [] (fun p loc => p = exB (goodF s n) ∧ loc = []) := by
  refine FnC_enter Try.func61 rfl Try.ntmps61 rfl fun w0 F0 out => ?_
  have hg := getF_lt (s.take 4)
  have hu11 := s[11].toNat_lt
  have h10 : s[10]?.getD 0 = s[10] := by rw [List.getElem?_eq_getElem (by omega)]; rfl
  have h11 : s[11]?.getD 0 = s[11] := by rw [List.getElem?_eq_getElem (by omega)]; rfl
  (repeat' (first | (apply cut_at 2; refine WP_cutR 2 (fun b : Bool => ([(0, isl eByte s), (1, exI .i64 n), (5, exI .i64 s[11].toNat), (40, exB b)], [])) (fun b => b = !preF s[11].toNat s[10].toNat) ?_ fun b hb0 => ?_) | refine WP_seq ?_ | refine WP_region ?_ | refine WPL_nil ?_ | (apply WPL_t; (first | exact WT_move rfl | exact WT_assign rfl | exact WT_pick (b := true) rfl (fun _ => rfl) (fun e => by cases e) | exact WT_pick (b := false) rfl (fun e => by cases e) (fun _ => rfl) | (apply g_load; first | exact WT_loadf rfl rfl) | (apply g_bin; first | exact WT_gtr rfl rfl) | (apply g_index; first | exact WT_index rfl rfl rfl) | (apply g_slice; first | exact WT_slch rfl rfl rfl) | (apply g_conv; first | exact WT_convb rfl rfl rfl)); exact rfl) | (refine WPL_off rfl rfl rfl rfl rfl ?_) | (refine WPL_offu rfl rfl rfl rfl ?_) | (apply WPL_gt; exact rfl; exact rfl; exact rfl; (first | exact WT_move rfl | exact WT_pick (b := true) rfl (fun _ => rfl) (fun e => by cases e) | exact WT_pick (b := false) rfl (fun e => by cases e) (fun _ => rfl) | (apply g_load; first | exact WT_loadf rfl rfl) | (apply g_bin; first | exact WT_lss rfl rfl | exact WT_eql rfl rfl | exact WT_gtr rfl rfl | exact WT_and rfl rfl) | (apply g_index; first | exact WT_index rfl rfl rfl)); exact rfl) | refine WP_skip ?_ | refine WP_ret ?_ | (apply WPL_op0; exact rfl; first | (apply g_callf; first | (refine WO_call Try.func41 rfl (get_any _ (by simp only [List.length_take, List.length_drop]; omega)) rfl ?_; rintro _ _ ⟨rfl, rfl⟩))) | (refine WPL_case rfl rfl (fun hb => ?_) (fun hb => ?_) <;> (repeat (first | replace hb := dec_t hb | replace hb := dec_f hb)) <;> (try (exfalso; first | fail))) | (refine WP_cond rfl (fun hb => ?_) (fun hb => ?_) <;> (repeat (first | fail)) <;> (try (exfalso; first | fail)))))
  iterate 7 (refine cut_here _ ?_ (Leads_env (by repeat (first | exact sub_nil | refine sub_cons rfl ?_)) (List.Sublist.refl _)); generalize s[11].toNat = e at *; generalize s[10].toNat = k at *; rw [Bool.eq_iff_iff]; unfold preF; generalize k &&& 2 = p at *; generalize k &&& 1 = q at *; simp; omega)
  · refine ⟨.inr rfl, ret1 rfl (.tmp rfl) (List.nil_sublist _) ⟨?_, rfl⟩⟩
    unfold goodF
    rw [h10, h11]
    simp_all
  have hpre : preF s[11].toNat s[10].toNat = true := by cases b <;> simp_all
  have he : s[11].toNat ≤ 112 := by unfold preF at hpre; simp at hpre; exact hpre.1
  (refine WP_drawl 17 rfl ?_)
  all_goals ((apply WPY_pure 0 rfl (by decide +kernel) rfl (by repeat (first | exact np_ret)) guard_none; (first | exact WT_move rfl); exact rfl))
  all_goals ((apply WPY_pure 1 rfl (by decide +kernel) rfl (by repeat (first | exact np_ret)) guard_none; (first | (apply g_bin; first | exact WT_gtr rfl rfl)); exact rfl))
  all_goals ((apply WPY_pure 2 rfl (by decide +kernel) rfl (by repeat (first | exact np_ret)) guard_none; (first | exact WT_move rfl); exact rfl))
  all_goals (first | (refine WPY_case 46 rfl (fun hb => ?_) (fun hb => ?_) <;> (repeat (first | replace hb := dec_t hb | replace hb := dec_f hb | replace hb := not_t hb | replace hb := not_f hb)) <;> (try (exfalso; first | (cases hb; done) | omega))) | skip)
  all_goals (first | (refine WPY_off 3 rfl (by decide +kernel) rfl (by repeat (first | exact np_ret)) rfl rfl rfl rfl rfl ?_) | (apply WPY_pure 3 rfl (by decide +kernel) rfl (by repeat (first | exact np_ret)) (guard_some rfl rfl rfl); (first | exact WT_move rfl); exact rfl))
  all_goals (first | (refine WPY_off 4 rfl (by decide +kernel) rfl (by repeat (first | exact np_ret)) rfl rfl rfl rfl rfl ?_) | (apply WPY_pure 4 rfl (by decide +kernel) rfl (by repeat (first | exact np_ret)) (guard_some rfl rfl rfl); (first | exact WT_move rfl); exact rfl))
  all_goals (first | (refine WPY_off 5 rfl (by decide +kernel) rfl (by repeat (first | exact np_ret)) rfl rfl rfl rfl rfl ?_) | (apply WPY_pure 5 rfl (by decide +kernel) rfl (by repeat (first | exact np_ret)) (guard_some rfl rfl rfl); (first | exact WT_move rfl); exact rfl))
  all_goals (first | (refine WPY_off 6 rfl (by decide +kernel) rfl (by repeat (first | exact np_ret)) rfl rfl rfl rfl rfl ?_) | (apply WPY_pure 6 rfl (by decide +kernel) rfl (by repeat (first | exact np_ret)) (guard_some rfl rfl rfl); (first | exact WT_move rfl); exact rfl))
  all_goals (first | (refine WPY_off 7 rfl (by decide +kernel) rfl (by repeat (first | exact np_ret)) rfl rfl rfl rfl rfl ?_) | (apply WPY_pure 7 rfl (by decide +kernel) rfl (by repeat (first | exact np_ret)) (guard_some rfl rfl rfl); (first | (apply g_index; first | exact WT_index rfl rfl rfl)); exact rfl))
  all_goals (first | (refine WPY_off 8 rfl (by decide +kernel) rfl (by repeat (first | exact np_ret)) rfl rfl rfl rfl rfl ?_) | (apply WPY_take 8 rfl (by decide +kernel) rfl (by decide +kernel) (by repeat (first | exact np_ret)) (guard_some rfl rfl rfl); (first | (apply g_load; first | exact WT_loadf rfl rfl)); exact rfl))
  all_goals (first | (refine WPY_off 9 rfl (by decide +kernel) rfl (by repeat (first | exact np_ret)) rfl rfl rfl rfl rfl ?_) | (apply WPY_pure 9 rfl (by decide +kernel) rfl (by repeat (first | exact np_ret)) (guard_some rfl rfl rfl); (first | exact WT_move rfl); exact rfl))
  all_goals (first | (refine WPY_off 10 rfl (by decide +kernel) rfl (by repeat (first | exact np_ret)) rfl rfl rfl rfl rfl ?_) | (apply WPY_pure 10 rfl (by decide +kernel) rfl (by repeat (first | exact np_ret)) (guard_some rfl rfl rfl); (first | exact WT_move rfl); exact rfl))
  all_goals (first | (refine WPY_off 11 rfl (by decide +kernel) rfl (by repeat (first | exact np_ret)) rfl rfl rfl rfl rfl ?_) | (apply WPY_pure 11 rfl (by decide +kernel) rfl (by repeat (first | exact np_ret)) (guard_some rfl rfl rfl); (first | (apply g_bin; first | exact WT_add rfl rfl)); exact rfl))
  all_goals (first | (refine WPY_off 12 rfl (by decide +kernel) rfl (by repeat (first | exact np_ret)) rfl rfl rfl rfl rfl ?_) | (apply WPY_pure 12 rfl (by decide +kernel) rfl (by repeat (first | exact np_ret)) (guard_some rfl rfl rfl); (first | (apply g_slice; first | exact WT_slc rfl rfl rfl rfl)); exact rfl))
  all_goals (first | (refine WPY_off 13 rfl (by decide +kernel) rfl (by repeat (first | exact np_ret)) rfl rfl rfl rfl rfl ?_) | (apply WPY_one 13; exact (by decide +kernel); exact rfl; exact (guard_some rfl rfl rfl); exact (fun _ _ h => h); first | (apply g_callf; first | (refine WO_call Try.func44 rfl (encode_any _ _ _ _ (by simp only [List.length_take, List.length_drop]; omega) (by first | assumption) (by omega)) rfl ?_; rintro _ _ ⟨rfl, rfl⟩))))
  all_goals (first | (refine WPY_off 14 rfl (by decide +kernel) rfl (by repeat (first | exact np_ret)) rfl rfl rfl rfl rfl ?_) | (apply WPY_one 14; exact (by decide +kernel); exact rfl; exact (guard_some rfl rfl rfl); exact (fun _ _ h => h); first | (apply g_callf; first | (refine WO_call Try.func43 rfl (equal_any _ _) rfl ?_; rintro _ _ ⟨rfl, rfl⟩))))
  all_goals ((apply WPY_pure 15 rfl (by decide +kernel) rfl (by repeat (first | exact np_ret)) guard_none; (first | exact WT_pick (b := true) rfl (fun _ => rfl) (fun e => by cases e) | exact WT_pick (b := false) rfl (fun e => by cases e) (fun _ => rfl)); exact rfl))
  all_goals ((apply WPY_pure 16 rfl (by decide +kernel) rfl (by repeat (first | exact np_ret)) guard_none; (first | exact WT_assign rfl); exact rfl))
  all_goals (refine WPY_done (by decide +kernel) ?_)
  (repeat' (first | refine WP_ret ?_))
  all_goals (refine ⟨.inr rfl, ret1 rfl (.tmp rfl) (List.nil_sublist _) ⟨congrArg exB ?_, rfl⟩⟩; unfold goodF; rw [h10, h11, hpre])
  · have hd : decide (0 < getF (s.take 4)) = true := by simp; omega
    rw [hd, ← List.take_drop]; rfl
  · have hd : decide (0 < getF (s.take 4)) = false := by simp; omega
    rw [hd]; rfl

end Go.Proofs.Ytmghnjahjeinnaa

/- The reference's small functions: number, numeral, checksum. -/
namespace Go.Proofs.Ytmghnjahjeinnaa
open Go Go.RowKit Go.Kx Go.Fr

/-- The number that bytes represent. -/
def numN (l : List UInt8) : Nat := l.foldl (fun n c => 256 * n + c.toNat) 0
theorem numN_snoc (l : List UInt8) (c : UInt8) : numN (l ++ [c]) = 256 * numN l + c.toNat := by unfold numN; rw [List.foldl_append]; rfl
theorem numN_take (l : List UInt8) (k : Nat) (h : k < l.length) : numN (l.take (k + 1)) = 256 * numN (l.take k) + l[k].toNat := by
  rw [List.take_succ_eq_append_getElem h, numN_snoc]
theorem numN_lt (l : List UInt8) : numN l < 256 ^ l.length := by
  have key : ∀ (l : List UInt8) (n k : Nat), n < 256 ^ k → l.foldl (fun n c => 256 * n + c.toNat) n < 256 ^ (k + l.length) := by
    intro l
    induction l with
    | nil => intro n k h; exact h
    | cons c l ih =>
      intro n k h
      have := ih (256 * n + c.toNat) (k + 1) (by rw [Nat.pow_succ]; have := c.toNat_lt; omega)
      rw [List.length_cons, show k + (l.length + 1) = k + 1 + l.length by omega]
      exact this
  have := key l 0 0 (by decide)
  rwa [Nat.zero_add] at this
theorem numN_lt64 (l : List UInt8) (h : l.length ≤ 8) : numN l < 2 ^ 64 := Nat.lt_of_lt_of_le (numN_lt l) (Nat.le_trans (Nat.pow_le_pow_right (by decide) h) (by decide))
theorem getF_num (l : List UInt8) (h : l.length ≤ 8) : getF l = numN l := by
  have key : ∀ k, k ≤ l.length → getF (l.take k) = numN (l.take k) := by
    intro k
    induction k with
    | zero => intro _; rfl
    | succ k ih =>
      intro hk
      rw [getF_snoc l k (by omega), numN_take l k (by omega), ih (by omega)]
      have h1 : numN (l.take k) < 256 ^ 7 := Nat.lt_of_lt_of_le (numN_lt _) (Nat.pow_le_pow_right (by decide) (by rw [List.length_take]; omega))
      have h2 : numN (l.take k) * 2 ^ 8 % 2 ^ 64 = numN (l.take k) * 2 ^ 8 := Nat.mod_eq_of_lt (by omega)
      rw [h2, Nat.mul_comm _ (2 ^ 8), ← Nat.two_pow_add_eq_or_of_lt (i := 8) (by have := l[k].toNat_lt; omega)]
  have := key l.length (Nat.le_refl _)
  rwa [List.take_length] at this

set_option maxRecDepth 100000 in
theorem number_any (l : List UInt8) (hl : l.length ≤ 8) : FnC Try.prog 63 [isl eByte l] [] (fun p loc => p = exI .u64 (numN l) ∧ loc = []) := by
  refine FnC_enter Try.func63 rfl Try.ntmps63 rfl fun w0 F0 out => ?_
  (repeat' (first | refine WP_seq ?_ | refine WP_region ?_ | refine WPL_nil ?_ | (apply WPL_t; (first | exact WT_assign rfl); exact rfl) | refine WP_block ?_))
  refine WP_loop (fun k : Nat => ([(0, isl eByte l), (4, exI .i64 k), (3, exI .u64 (numN (l.take k)))], [])) (fun k => k ≤ l.length) (fun k => l.length - k) 0 ?_ (by omega) fun k hk => ?_
  · exact Leads_env (by repeat (first | exact sub_nil | refine sub_cons rfl ?_)) (List.Sublist.refl _)
  have hg := numN_lt64 (l.take k) (by rw [List.length_take]; omega)
  (repeat' (first | refine WP_seq ?_ | refine WP_region ?_ | refine WPL_nil ?_ | (apply WPL_t; (first | exact WT_move rfl | exact WT_assign rfl | (apply g_load; first | exact WT_loadf rfl rfl) | (apply g_bin; first | exact WT_lss rfl rfl | exact WT_mulu rfl rfl | exact WT_addu rfl rfl | exact WT_add rfl rfl) | (apply g_index; first | exact WT_index rfl rfl rfl) | (apply g_conv; first | exact WT_convb rfl rfl rfl) | (apply g_call; first | exact WT_len rfl rfl)); exact rfl) | refine WP_block ?_ | refine WP_skip ?_ | refine WP_ret ?_ | refine WP_exit ?_ | (refine WP_cond rfl (fun hb => ?_) (fun hb => ?_) <;> (repeat (first | replace hb := dec_t hb | replace hb := dec_f hb)) <;> (try (exfalso; first | fail)))))
  · have hkl : k < l.length := by omega
    refine ⟨k + 1, by omega, by omega, Leads_env (sub_cons rfl (sub_cons rfl (sub_cons ?_ sub_nil))) (List.Sublist.refl _)⟩
    have h2 := numN_take l k hkl
    have h3 := numN_lt64 (l.take (k + 1)) (by rw [List.length_take]; omega)
    have h4 : 256 * numN (l.take k) % 2 ^ 64 = 256 * numN (l.take k) := Nat.mod_eq_of_lt (by omega)
    have h5 : (256 * numN (l.take k) + l[k].toNat) % 2 ^ 64 = 256 * numN (l.take k) + l[k].toNat := Nat.mod_eq_of_lt (by omega)
    rw [h2, ← h5]
    conv => rhs; rw [← h4]
    rfl
  · refine ⟨.inr rfl, ret1 rfl (.tmp rfl) (List.nil_sublist _) ⟨?_, rfl⟩⟩
    rw [List.take_of_length_le (by omega)]

set_option maxRecDepth 100000 in
theorem numeral_any (n m : Nat) (hn : n < 2 ^ 64) (hm : m ≤ 8) : FnC Try.prog 66 [exI .u64 n, exI .i64 m] [] (fun p loc => ∃ b, p = ex (.slice (some ⟨b, 0, none⟩) m m) ∧ loc = [row b 5 m ((numB m n).map ub)]) := by
  refine FnC_enter Try.func66 rfl Try.ntmps66 rfl fun w0 F0 out => ?_
  (repeat' (first | refine WP_seq ?_ | refine WP_region ?_ | refine WPL_nil ?_ | (apply WPL_t; (first | exact WT_move rfl | exact WT_assign rfl | (apply g_bin; first | exact WT_sub rfl rfl)); exact rfl) | refine WP_block ?_ | (apply WPL_op0; exact rfl; first | (apply g_make; refine WO_make rfl rfl rfl ?_; intro _))))
  rename_i blk
  refine WP_loop (fun i : Nat => ([(0, exI .u64 ((n / 256 ^ i : Nat) : Int)), (5, ex (.slice (some ⟨blk, 0, none⟩) m m)), (6, exI .i64 ((m : Int) - 1 - i))], [row blk 5 m ((over (List.replicate m 0) (m - i) ((numB m n).drop (m - i))).map ub)])) (fun i => i ≤ m) (fun i => m - i) 0 ?_ (by omega) fun i hi => ?_
  · refine Leads_env (sub_cons ?_ (sub_cons rfl (sub_cons ?_ sub_nil))) ?_
    · simp; rfl
    · simp; rfl
    · rw [Nat.sub_zero, List.drop_of_length_le (by rw [numB_length]; omega)]
      have : over (List.replicate m 0) m [] = List.replicate m 0 := by simp [over]
      rw [this, List.map_replicate]
      exact List.Sublist.refl _
  have hlen : (over (List.replicate m 0) (m - i) ((numB m n).drop (m - i))).length = m := by rw [over_length _ _ _ (by rw [List.length_drop, numB_length, List.length_replicate]; omega), List.length_replicate]
  have hq : n / 256 ^ i < 2 ^ 64 := Nat.lt_of_le_of_lt (Nat.div_le_self _ _) hn
  (repeat' (first | refine WP_seq ?_ | refine WP_region ?_ | refine WPL_nil ?_ | (apply WPL_t; (first | exact WT_move rfl | exact WT_assign rfl | (apply g_bin; first | exact WT_geq rfl rfl | exact WT_sub rfl rfl | exact WT_rem rfl rfl | exact WT_quo rfl rfl) | (apply g_index; first | exact WT_indexoz rfl rfl rfl) | (apply g_conv; first | exact WT_convu8 rfl rfl rfl)); exact rfl) | refine WP_block ?_ | refine WP_skip ?_ | refine WP_ret ?_ | refine WP_exit ?_ | (apply WPL_op0; exact rfl; first | (apply g_store; first | (refine WO_storeB (k := 0) (l0 := []) rfl rfl rfl ?_; intro _ _ _))) | (refine WP_cond rfl (fun hb => ?_) (fun hb => ?_) <;> (repeat (first | replace hb := dec_t hb | replace hb := dec_f hb)) <;> (try (exfalso; first | fail)))))
  · rename_i bs' hbs' hl'
    have e1 : ((m : Int) - 1 - (i : Int)).toNat = m - (i + 1) := by omega
    refine ⟨i + 1, by omega, by omega, Leads_env (sub_cons ?_ (sub_cons rfl (sub_cons ?_ sub_nil))) ?_⟩
    · rw [Nat.pow_succ, ← Nat.div_div_eq_div_mul]; rfl
    · rw [show (m : Int) - 1 - ((i + 1 : Nat) : Int) = (m : Int) - 1 - i - 1 by omega]; rfl
    · have e2 : over (List.replicate m 0) (m - (i + 1)) ((numB m n).drop (m - (i + 1))) = bs' := by
        rw [hbs', numB_drop m n i (by omega), ← over_step _ _ _ _ (by rw [List.length_drop, numB_length, List.length_replicate]; omega), e1, Nat.mul_one, Nat.zero_add, show m - (i + 1) + 1 = m - i by omega]
        congr 2
        rw [show 256 ^ i = 2 ^ (8 * i) by rw [Nat.pow_mul]]
        apply UInt8.toNat_inj.1
        simp [UInt8.toNat_ofNat]
      rw [e2]; exact List.Sublist.refl _
  · obtain rfl : i = m := by omega
    refine ⟨.inr rfl, ret1 rfl (.tmp rfl) (List.Sublist.refl _) ⟨blk, rfl, ?_⟩⟩
    dsimp only
    rw [Nat.sub_self, List.drop_zero]
    simp [over, numB_length]

theorem crc_odd (i n : Nat) (h : crcBits i n % 2 = 1) : crcBits (i + 1) n = crcBits i n / 2 ^ 1 ^^^ 3988292384 := by
  show crcBit (crcBits i n) = _
  unfold crcBit
  rw [Nat.and_one_is_mod, h]
theorem crc_even (i n : Nat) (h : crcBits i n % 2 ≠ 1) : crcBits (i + 1) n = crcBits i n / 2 ^ 1 := by
  show crcBit (crcBits i n) = _
  unfold crcBit
  rw [Nat.and_one_is_mod, show crcBits i n % 2 = 0 by omega]
  simp

set_option maxRecDepth 100000 in
theorem checksum_any (l : List UInt8) (hl : l.length ≤ 9223372036854775807) : FnC Try.prog 67 [isl eByte l] [] (fun p loc => p = exI .u32 (sumF l) ∧ loc = []) := by
  refine FnC_enter Try.func67 rfl Try.ntmps67 rfl fun w0 F0 out => ?_
  (repeat' (first | refine WP_seq ?_ | refine WP_region ?_ | refine WPL_nil ?_ | (apply WPL_t; (first | exact WT_assign rfl); exact rfl) | refine WP_block ?_))
  refine WP_loop (fun k : Nat => ([(0, isl eByte l), (4, exI .i64 k), (3, exI .u32 (crcF (l.take k)))], [])) (fun k => k ≤ l.length) (fun k => l.length - k) 0 ?_ (by omega) fun k hk => ?_
  · exact Leads_env (by repeat (first | exact sub_nil | refine sub_cons rfl ?_)) (List.Sublist.refl _)
  have hg := crc_lt (l.take k)
  (repeat' (first | refine WP_seq ?_ | refine WP_region ?_ | refine WPL_nil ?_ | (apply WPL_t; (first | exact WT_move rfl | exact WT_assign rfl | (apply g_load; first | exact WT_loadf rfl rfl) | (apply g_bin; first | exact WT_lss rfl rfl | exact WT_xor rfl rfl) | (apply g_index; first | exact WT_index rfl rfl rfl) | (apply g_conv; first | exact WT_convb rfl rfl rfl) | (apply g_call; first | exact WT_len rfl rfl)); exact rfl) | refine WP_block ?_ | refine WP_skip ?_ | refine WP_ret ?_ | refine WP_exit ?_ | (refine WP_cond rfl (fun hb => ?_) (fun hb => ?_) <;> (repeat (first | replace hb := dec_t hb | replace hb := dec_f hb)) <;> (try (exfalso; first | fail)))))
  · have hkl : k < l.length := by omega
    have hg2 : crcF (l.take k) ^^^ l[k].toNat < 2 ^ 32 := Nat.xor_lt_two_pow hg (by have := l[k].toNat_lt; omega)
    refine WP_loop (fun i : Nat => ([(0, isl eByte l), (4, exI .i64 k), (3, exI .u32 (crcBits i (crcF (l.take k) ^^^ l[k].toNat))), (5, exI .i64 i)], [])) (fun i => i ≤ 8) (fun i => 8 - i) 0 ?_ (by omega) fun i hi => ?_
    · exact Leads_env (by repeat (first | exact sub_nil | refine sub_cons rfl ?_)) (List.Sublist.refl _)
    have hg3 := crcBits_lt i _ hg2
    (repeat' (first | refine WP_seq ?_ | refine WP_region ?_ | refine WPL_nil ?_ | (apply WPL_t; (first | exact WT_move rfl | exact WT_assign rfl | (apply g_bin; first | exact WT_lss rfl rfl | exact WT_eql rfl rfl | exact WT_add rfl rfl | exact WT_xor rfl rfl | exact WT_shr rfl rfl | exact WT_rem rfl rfl)); exact rfl) | refine WP_block ?_ | refine WP_skip ?_ | refine WP_exit ?_ | (refine WP_cond rfl (fun hb => ?_) (fun hb => ?_) <;> (repeat (first | replace hb := dec_t hb | replace hb := dec_f hb)) <;> (try (exfalso; first | fail)))))
    · exact ⟨i + 1, by omega, by omega, Leads_env (sub_cons rfl (sub_cons rfl (sub_cons (by rw [crc_odd i (crcF (l.take k) ^^^ l[k].toNat) (by omega)]; rfl) (sub_cons rfl sub_nil)))) (List.Sublist.refl _)⟩
    · exact ⟨i + 1, by omega, by omega, Leads_env (sub_cons rfl (sub_cons rfl (sub_cons (by rw [crc_even i (crcF (l.take k) ^^^ l[k].toNat) (by omega)]; rfl) (sub_cons rfl sub_nil)))) (List.Sublist.refl _)⟩
    · obtain rfl : i = 8 := by omega
      exact ⟨k + 1, by omega, by omega, Leads_env (sub_cons rfl (sub_cons rfl (sub_cons (by rw [crc_snoc l k hkl]; rfl) sub_nil))) (List.Sublist.refl _)⟩
  · refine ⟨.inr rfl, ret1 rfl (.tmp rfl) (List.nil_sublist _) ⟨?_, rfl⟩⟩
    rw [List.take_of_length_le (by omega)]
    show exI .u32 ((crcF l ^^^ 4294967295 : Nat) : Int) = _
    rw [Nat.xor_comm]
    rfl

end Go.Proofs.Ytmghnjahjeinnaa
