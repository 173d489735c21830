/- Chapter 13: what was parsed is printed so that it is parsed again. No program in sight. -/
import Derived.Test.YthdldeenpgeemaaGreatDoorPart9
import Derived.Test.YthdldeenpgeemaaGreatDoorPartA
import Derived.Test.YthdldeenpgeemaaGreatDoorPart2
import Derived.Test.YthdldeenpgeemaaGreatDoorPart5
import Derived.ProofKit
namespace Go.Sx
open Go.Lx Go.Fr
variable {α β σ : Type}
structure Up (f g : List TokD → Res α) : Prop where
 into : ∀ {ts x r}, f ts = .ok (x, r) → g ts = .ok (x, r)
theorem Zcx (f : List TokD → Res α) : Up f f := ⟨fun h => h⟩
theorem up_fail (g : List TokD → Res α) : Up (fun ts => .error ts) g := ⟨fun h => by cases h⟩
theorem Zd3 {f f' : List TokD → Res α} {g g' : α → List TokD → Res β} (hf : Up f f') (hg : ∀ x, Up (g x) (g' x)) : Up (bnd f g) (bnd f' g') := ⟨fun h => by
 obtain ⟨x, u, h1, h2⟩ := bnd_ok h
 rw [Zb7 (hf.into h1)]; exact (hg x).into h2⟩
theorem up_if {test : List TokD → Bool} {f f' g g' : List TokD → Res α} (hf : Up f f') (hg : Up g g') : Up (fun ts => if test ts then f ts else g ts) (fun ts => if test ts then f' ts else g' ts) := ⟨fun {ts x r} h => by
 cases hb : test ts with
 | true => simp only [hb, if_true] at h ⊢; exact hf.into h
 | false => simp only [hb] at h ⊢; exact hg.into h⟩
theorem up_gate {ok ok' : Bool} {f f' : List TokD → Res α} (ho : ok = true → ok' = true) (h : Up f f') : Up (gate ok f) (gate ok' f') := by
 cases ok
 · exact ⟨fun h => by cases h⟩
 · rw [ho rfl]; exact h
theorem up_loop {test : List TokD → Bool} {item item' : σ → List TokD → Res σ} (h : ∀ s, Up (item s) (item' s)) : ∀ (n : Nat) (s : σ), Up (loopP test item n s) (loopP test item' n s)
 | 0, _ => Zcx _
 | n + 1, s => ⟨fun {ts x r} e => by
   rw [loopP] at e ⊢
   by_cases hb : test ts = true
   · rw [if_pos hb] at e ⊢
     cases he : item s ts with
     | error e' => rw [he] at e; cases e
     | ok q =>
       obtain ⟨s', u⟩ := q
       rw [he] at e
       rw [(h s).into he]
       exact (up_loop h n s').into e
   · rw [if_neg hb] at e ⊢; exact e⟩
theorem up_run {test : List TokD → Bool} {item item' : σ → List TokD → Res σ} (h : ∀ s, Up (item s) (item' s)) (s : σ) : Up (runP test item s) (runP test item' s) := ⟨fun {ts _ _} e => (up_loop h ts.length s).into e⟩
section
variable {tm tm' ex ex' : List TokD → Res Ex}
theorem up_addStep (h : Up tm tm') (x : Ex) : Up (addStep tm x) (addStep tm' x) := up_if (Zd3 (Zcx _) fun _ => Zd3 h fun _ => Zcx _) (Zd3 (Zcx _) fun _ => Zd3 h fun _ => Zcx _)
theorem up_exprOf (h : Up tm tm') : Up (exprOf tm) (exprOf tm') := Zd3 h fun x => up_run (up_addStep h) x
theorem up_pair (h : Up ex ex') (k : Int) : Up (pairP ex k) (pairP ex' k) := Zd3 (Zcx _) fun _ => Zd3 h fun _ => Zd3 (Zcx _) fun _ => Zd3 h fun _ => Zcx _
theorem up_factor {ok ok' : Bool} (ho : ok = true → ok' = true) (h : Up ex ex') : Up (factorB ok ex) (factorB ok' ex') :=
 up_if (Zcx _) (up_if (Zcx _) (up_if (Zcx _) (up_if (Zcx _) (up_if (up_gate ho (Zd3 (Zcx _) fun _ => up_pair h 9)) (up_if (up_gate ho (Zd3 (Zcx _) fun _ => up_pair h 10))
   (up_if (up_gate ho (Zd3 (Zcx _) fun _ => Zd3 h fun _ => Zd3 (Zcx _) fun _ => Zd3 h fun _ => Zd3 (Zcx _) fun _ => Zd3 h fun _ => Zd3 (Zcx _) fun _ => Zd3 h fun _ => Zcx _))
   (up_if (up_gate ho (Zd3 (Zcx _) fun _ => Zd3 h fun _ => Zcx _)) (Zcx _))))))))
theorem up_term {ok ok' : Bool} (ho : ok = true → ok' = true) (ht : Up tm tm') (hx : Up ex ex') : Up (termB ok tm ex) (termB ok' tm' ex') :=
 up_if (Zd3 (Zcx _) fun _ => up_if (up_gate ho (Zd3 (Zcx _) fun _ => Zd3 ht fun _ => Zcx _)) (Zcx _)) (up_factor ho hx)
end
theorem up_termN : ∀ n, Up (termN n) (termN (n + 1))
 | 0 => up_term (fun h => by cases h) (up_fail _) (up_fail _)
 | n + 1 => up_term (fun h => h) (up_termN n) (up_exprOf (up_termN n))
structure Yl (f : List TokD → Res α) (P : α → Nat → Prop) : Prop where
 into : ∀ {ts x r}, (∀ t ∈ ts, validB t = true) → f ts = .ok (x, r) → ∃ c, ts = c ++ r ∧ P x c.length
theorem want_S (w : List UInt8) (z : List TokD) : want w (tkS w :: z) = .ok ((), z) := by unfold want; rw [if_pos (by unfold isT; simp [tkS])]; rfl
theorem isT_S (v w : List UInt8) (z : List TokD) : isT v (tkS w :: z) = decide (w = v) := by show (decide ((3 : Int) ≠ 2) && decide (w = v)) = _; rw [show decide ((3 : Int) ≠ 2) = true by decide, Bool.true_and]
theorem isT_W (v w : List UInt8) (z : List TokD) : isT v (tkW w :: z) = decide (w = v) := by show (decide ((1 : Int) ≠ 2) && decide (w = v)) = _; rw [show decide ((1 : Int) ≠ 2) = true by decide, Bool.true_and]
def NoSl (z : List TokD) : Prop := isT sSlash z = false ∧ isT sStar z = false
theorem Inert.sl {z : List TokD} (h : Inert z) : NoSl z := h.2.2
abbrev prt (x : Ex) : List TokD := partT (x.kind, exT' x)
def SumE (x : Ex) : Prop := x.kind = 6 ∨ x.kind = 7
instance {x : Ex} : Decidable (SumE x) := inferInstanceAs (Decidable (_ ∨ _))
def TOk (n : Nat) (x : Ex) : Prop := ∀ z, NoSl z → termN n (prt x ++ z) = .ok (x, z)
inductive GOk (n : Nat) : Ex → Prop
 | term {x : Ex} (h : ¬ SumE x) (ht : TOk n x) : GOk n x
 | sum {k : Int} {a y : Ex} (h : k = 6 ∨ k = 7) (ha : GOk n a) (ht : TOk n y) : GOk n (.mk k [] 0 0 [a, y])
theorem TOk.up {n : Nat} {x : Ex} (h : TOk n x) : TOk (n + 1) x := fun z hz => (up_termN n).into (h z hz)
theorem GOk.up {n : Nat} {x : Ex} (h : GOk n x) : GOk (n + 1) x := by
 induction h with
 | term h ht => exact .term h ht.up
 | sum h _ ht ih => exact .sum h ih ht.up
theorem prt_no {x : Ex} (h : ¬ SumE x) : prt x = exT' x := by unfold prt partT; rw [if_neg (show ¬ ((x.kind, exT' x).1 = 6 ∨ (x.kind, exT' x).1 = 7) from h)]
theorem exT_sum6 (a y : Ex) : exT' (.mk 6 [] 0 0 [a, y]) = exT' a ++ tkS sPlus :: prt y := by rw [exT'_eq]; rfl
theorem exT_sum7 (a y : Ex) : exT' (.mk 7 [] 0 0 [a, y]) = exT' a ++ tkS sMinus :: prt y := by rw [exT'_eq]; rfl
theorem GOk.run {n : Nat} {x : Ex} (h : GOk n x) : ∀ z, NoSl z → exprN n (exT' x ++ z) = runP addT (addStep (termN n)) x z := by
 induction h with
 | @term x h ht =>
   intro z hz
   have := ht z hz
   rw [prt_no h] at this
   unfold exprN exprOf
   rw [Zb7 this]
 | @sum k a y h _ ht ih =>
   intro z hz
   rcases h with rfl | rfl
   · rw [exT_sum6, List.append_assoc, List.cons_append, ih _ ⟨by rw [isT_S]; decide, by rw [isT_S]; decide⟩, run_eq rfl (less_addStep (lw_termT n)), if_pos (by unfold addT; rw [isT_S]; rfl)]
     have : addStep (termN n) a (tkS sPlus :: (prt y ++ z)) = .ok (.mk 6 [] 0 0 [a, y], z) := by
       unfold addStep
       rw [if_pos (by rw [isT_S]; decide), Zb7 (want_S _ _), Zb7 (ht z hz)]
       rfl
     rw [Zb7 this]
   · rw [exT_sum7, List.append_assoc, List.cons_append, ih _ ⟨by rw [isT_S]; decide, by rw [isT_S]; decide⟩, run_eq rfl (less_addStep (lw_termT n)), if_pos (by unfold addT; rw [isT_S, isT_S]; decide)]
     have : addStep (termN n) a (tkS sMinus :: (prt y ++ z)) = .ok (.mk 7 [] 0 0 [a, y], z) := by
       unfold addStep
       rw [if_neg (by rw [isT_S]; decide), Zb7 (want_S _ _), Zb7 (ht z hz)]
       rfl
     rw [Zb7 this]
theorem GOk.ok {n : Nat} {x : Ex} (h : GOk n x) {z : List TokD} (hz : Inert z) : exprN n (exT' x ++ z) = .ok (x, z) := by
 rw [h.run z hz.sl, run_eq rfl (less_addStep (lw_termT n)), if_neg (by rw [inert_add z hz]; decide)]; rfl
def Va (l : List TokD) : Prop := ∀ t ∈ l, validB t = true
structure PT (n : Nat) (x : Ex) (k : Nat) : Prop where
 t : TOk n x
 g : GOk n x
 v : Va (exT' x)
 l : (prt x).length ≤ k
structure PE (n : Nat) (x : Ex) (k : Nat) : Prop where
 g : GOk n x
 v : Va (exT' x)
 l : (exT' x).length ≤ k
section
variable {ok : Bool} {ex : List TokD → Res Ex}
end
end Go.Sx
namespace Go.Sx
open Go.Lx Go.Fr
variable {α β σ : Type}
structure PI (item : List TokD → Res α) (tk : α → List TokD) (x : α) (k : Nat) : Prop where
 t : ∀ l z, someStep item l (tk x ++ z) = .ok (l ++ [x], z)
 v : Va (tk x)
 l : (tk x).length ≤ k + 1
structure PL (item : List TokD → Res α) (tk : α → List TokD) (xs : List α) (k : Nat) : Prop where
 t : ∀ x ∈ xs, ∀ l z, someStep item l (tk x ++ z) = .ok (l ++ [x], z)
 v : Va (xs.flatMap tk)
 l : (xs.flatMap tk).length ≤ k
def cT (tk : α → List TokD) : List α → List TokD
 | [] => []
 | x :: l => tk x ++ l.flatMap fun y => tkS sComma :: tk y
structure PC (item : List TokD → Res α) (tk : α → List TokD) (xs : List α) (k : Nat) : Prop where
 ne : xs ≠ []
 t : ∀ x ∈ xs, ∀ z, item (tk x ++ z) = .ok (x, z)
 v : Va (cT tk xs)
 l : (cT tk xs).length ≤ k
structure P1 (item : List TokD → Res α) (tk : α → List TokD) (x : α) (k : Nat) : Prop where
 t : ∀ z, item (tk x ++ z) = .ok (x, z)
 v : Va (tk x)
 l : (tk x).length ≤ k
def HW (ws : List (List UInt8)) (u : List TokD) : Prop := u = [] ∨ ∃ w ∈ ws, ∃ v, u = tkW w :: v
theorem HW.app {ws vs : List (List UInt8)} {u v : List TokD} (h : HW ws u) (k : HW vs v) : HW (ws ++ vs) (u ++ v) := by
 rcases h with rfl | ⟨w, hw, u', rfl⟩
 · rcases k with rfl | ⟨w, hw, v', rfl⟩
   · exact .inl rfl
   · exact .inr ⟨w, List.mem_append_right _ hw, v', rfl⟩
 · exact .inr ⟨w, List.mem_append_left _ hw, u' ++ v, rfl⟩
theorem HW.no {ws : List (List UInt8)} {u : List TokD} (h : HW ws u) {w : List UInt8} (hw : w ∉ ws) : isT w u = false := by
 rcases h with rfl | ⟨w', hw', v, rfl⟩
 · rfl
 · rw [isT_W]; simp only [decide_eq_false_iff_not]; rintro rfl; exact hw hw'
end Go.Sx
namespace Go.Sx
open Go.Lx Go.Fr
variable {α β σ : Type}
abbrev opens (k : Nat) : List TokD := List.replicate k (tkS sOpen)
def scanA (f : Int) (t : TokD) : Int := if t.text = wRound ∧ t.kind = 1 ∧ f = 0 then -1 else f
def scanB (i : Nat) (f : Int) (t : TokD) : Int := if t.text = wScore ∧ t.kind = 1 ∧ f = -1 then (i : Int) + 1 else f
def scanC (i : Nat) (f u : Int) (t : TokD) : Int := if (t.text = sSemi ∨ t.text = wTie) ∧ 0 < f ∧ u = 0 then (i : Int) else u
def scanS (i : Nat) (s : Int × Int) (t : TokD) : Int × Int := (scanB i (scanA s.1 t) t, scanC i (scanB i (scanA s.1 t) t) s.2 t)
def scanL : Nat → Int × Int → List TokD → Int × Int
 | _, s, [] => s
 | i, s, t :: l => scanL (i + 1) (scanS i s t) l
end Go.Sx
namespace Go.Sx
open Go.Lx Go.Fr
theorem two_cases (s : List UInt8) (hs : s.length ≤ 65536) : (∃ l r, lexF 0 s = .ok l ∧ (∀ t ∈ l, validB t = true) ∧ l.length ≤ s.length ∧ rulesP l = .ok (r, []) ∧ lexA s = (l, 0, 0) ∧ parseA s = (r, 0, 0)) ∨ (lexA s).2.2 ≠ 0 ∨ (parseA s).2.2 ≠ 0 := by
 rcases lexA_cases s hs with ⟨l, h1, h2⟩ | ⟨p, h1, h2⟩
 · cases hr : rulesP l with
   | ok q =>
     obtain ⟨r, u⟩ := q
     obtain rfl := rules_all hr
     refine .inl ⟨l, r, h1, lex_valid 0 s l h1, lex_cnt h1, hr, h2, ?_⟩
     unfold parseA readA
     rw [if_neg (by omega), h1]
     simp only [hr]
   | error e =>
     refine .inr (.inr ?_)
     unfold parseA readA
     rw [if_neg (by omega), h1]
     simp only [hr]
     decide
 · exact .inr (.inl (by rw [h2]; exact (by decide : (30 : Int) ≠ 0)))
end Go.Sx
namespace Go.Proofs.YthdldeenpgeemaaGreatDoor
open Go Go.RowKit Go.Kx Go.Fr Go.Lx Go.Sx
set_option maxHeartbeats 4000000 in
set_option maxRecDepth 100000 in
theorem syntaxCut_any (s : List UInt8) (n : Int) : FnC Tryz.prog 7 [exT s, exI .i64 n] [Lab] (fun p loc => p = exB true ∧ loc = []) := by
 have hlx := lex3_any s
 have hpa := parse13_any s
 by_cases hgo : s.length ≤ 2000 ∧ (lexA s).2.2 = 0 ∧ (parseA s).2.2 = 0 ∧ (lexA s).1.length ≤ 1000
 · obtain ⟨hs, h0, h1, hl⟩ := hgo
   rcases two_cases s (by omega) with ⟨l, r, g1, hv, g3, g4, g5, g6⟩ | g | g
   · rw [g5] at hlx hl
     rw [g6] at hpa
     unfold lexV at hlx
     dsimp only at hlx hl
     have hNs := u64_nt n
     generalize hsu : (n % 18446744073709551616).toNat = su at *
     have hql : su % (l.length + 1) ≤ l.length := Nat.le_of_lt_succ (Nat.mod_lt _ (Nat.succ_pos _))
     have hwk : IntKind.i64.wrap ((su % (l.length + 1) : Nat) : Int) = ((su % (l.length + 1) : Nat) : Int) := IntWalk.i64_in _ ⟨by generalize su % (l.length + 1) = q at *; omega, by generalize su % (l.length + 1) = q at *; omega⟩
     have hvt : ∀ t ∈ l.take (su % (l.length + 1)), validB t = true := fun t ht => hv t (List.mem_of_mem_take ht)
     have htx := text3_any (l.take (su % (l.length + 1)))
     rw [textA_yes hvt] at htx
     unfold textV at htx
     dsimp only at htx
     have hpb := parse13_any (joinF ((l.take (su % (l.length + 1))).map word))
     have hcut := cut_plain (k := su % (l.length + 1)) g4
     refine Zbk Tryz.func7 rfl Tryz.ntmps7 rfl fun w0 F0 out => ?_
     (repeat' (first | (apply Zao 48; apply Za8; exact WT_convw (m := n) rfl rfl rfl; exact rfl) | (apply Zao 52; apply Za8; exact WT_conv (m := (l.length : Int) + 1) rfl rfl rfl (u64_in (by omega) (by omega)); exact rfl) | (apply Zao 54; apply Za8; exact WT_conv (m := ((su % (l.length + 1) : Nat) : Int)) rfl rfl rfl hwk; exact rfl) | (apply Zck 8; refine StopW.out ?_) | refine Za7 ?_ | refine Za1 ?_ | refine Za3 ?_ | (apply Za8; (first | exact Za2 rfl | exact Za5 rfl | exact Zb1 (b := false) rfl (fun e => by cases e) (fun _ => rfl) | exact Zbs rfl rfl | (apply Zag; first | exact Zcq rfl rfl | exact Zc0 rfl rfl | exact WT_rem rfl rfl) | (apply g_slice; exact WT_slch rfl rfl rfl) | (apply Zb5; first | exact Zc7 rfl rfl | exact Zbq rfl rfl) | (apply g_un; exact Zcl rfl)); exact rfl) | (apply Zcd; exact rfl; exact rfl; exact rfl; (first | exact Za2 rfl | (apply Zag; first | exact Zc8 rfl rfl | exact Zcq rfl rfl) | (apply Zb5; exact Zbq rfl rfl)); exact rfl) | refine Zan ?_ | refine Zaz rfl ?_ | (apply Zab; exact rfl; first | (apply Zae; first | (refine Zaa (.dup 0 rfl rfl .nil) Tryz.func10 rfl sane13_any rfl ?_; rintro _ _ ⟨rfl, rfl⟩) | (refine Zaa (.dup 0 rfl rfl .nil) Tryz.func17 rfl hlx rfl ?_; rintro _ _ ⟨rfl, rfl⟩) | (refine Zaa (.dup 0 rfl rfl .nil) Tryz.func11 rfl hpa rfl ?_; rintro _ _ ⟨⟨k1, rfl⟩, rfl⟩) | (refine Zaa (.dup 1 rfl rfl .nil) Tryz.func19 rfl htx rfl ?_; rintro _ _ ⟨rfl, rfl⟩)) | (apply Zbo; refine Zbf ?_; intro _) | (apply Zay; refine Zal (k := 0) (l0 := []) rfl rfl rfl ?_)) | (refine Zbu rfl rfl (fun hb => ?_) (fun hb => ?_) <;> (repeat (first | replace hb := Zar hb | replace hb := Zas hb)) <;> (try (exfalso; omega))) | (refine Zah rfl (fun hb => ?_) (fun hb => ?_) <;> (repeat (first | replace hb := Zar hb | replace hb := Zas hb)) <;> (try (exfalso; omega)))))
     all_goals (try (exfalso; first | contradiction | omega))
     refine ⟨?_⟩
     generalize su % (l.length + 1) = q at *
     generalize hJ : joinF ((l.take q).map word) = J at *
     by_cases hj : J.length ≤ 65536
     · have hpj := parse_join hvt (by rw [hJ]; exact hj)
       rw [hJ] at hpj
       rw [hpj] at hpb
       rcases hcut with ⟨y, hy⟩ | hy
       · rw [hy] at hpb
         (repeat' (first | refine Za7 ?_ | refine Za1 ?_ | refine Za3 ?_ | (apply Za8; (first | exact Za2 rfl | exact Za5 rfl | exact Zb1 (b := true) rfl (fun _ => rfl) (fun e => by cases e) | exact Zbs rfl rfl | (apply Zag; first | exact Zbr rfl rfl | exact Zcq rfl rfl) | (apply Zb5; exact Zc7 rfl rfl)); exact rfl) | (refine Zcc rfl rfl rfl rfl rfl ?_) | (refine WPL_offu rfl rfl rfl rfl ?_) | (apply Zcd; exact rfl; exact rfl; exact rfl; (first | exact Za2 rfl | exact Zb1 (b := true) rfl (fun _ => rfl) (fun e => by cases e) | (apply Zag; exact Zbr rfl rfl)); exact rfl) | refine Zan ?_ | refine Zax ?_ | (apply Zab; exact rfl; first | (apply Zae; (refine Zaa (.dup 1 rfl rfl .nil) Tryz.func11 rfl hpb rfl ?_; rintro _ _ ⟨⟨k2, rfl⟩, rfl⟩)) | (apply Zbo; refine Zbf ?_; intro _) | (apply Zay; refine Zal (k := 0) (l0 := []) rfl rfl rfl ?_)) | (refine Zah rfl (fun hb => ?_) (fun hb => ?_) <;> (repeat (first | replace hb := Zar hb | replace hb := Zas hb)) <;> (try (exfalso; omega)))))
         all_goals (try (exfalso; first | contradiction | omega))
         all_goals (refine ⟨.inr rfl, ret1 rfl (.tmp rfl) (List.nil_sublist _) ⟨congrArg exB ?_, rfl⟩⟩)
         all_goals (first | rfl | (simp; done))
       · rw [hy] at hpb
         (repeat' (first | refine Za7 ?_ | refine Za1 ?_ | refine Za3 ?_ | (apply Za8; (first | exact Za2 rfl | exact Za5 rfl | exact Zb1 (b := true) rfl (fun _ => rfl) (fun e => by cases e) | exact Zbs rfl rfl | (apply Zag; first | exact Zbr rfl rfl | exact Zcq rfl rfl) | (apply Zb5; exact Zc7 rfl rfl)); exact rfl) | (refine Zcc rfl rfl rfl rfl rfl ?_) | (apply Zcd; exact rfl; exact rfl; exact rfl; (first | exact Za2 rfl | exact Zb1 (b := true) rfl (fun _ => rfl) (fun e => by cases e) | exact Zb1 (b := false) rfl (fun e => by cases e) (fun _ => rfl) | (apply Zag; exact Zbr rfl rfl) | (apply Zb5; exact Zc7 rfl rfl)); exact rfl) | refine Zan ?_ | refine Zax ?_ | (apply Zab; exact rfl; first | (apply Zae; (refine Zaa (.dup 1 rfl rfl .nil) Tryz.func11 rfl hpb rfl ?_; rintro _ _ ⟨⟨k2, rfl⟩, rfl⟩)) | (apply Zbo; refine Zbf ?_; intro _) | (apply Zay; refine Zal (k := 0) (l0 := []) rfl rfl rfl ?_)) | (refine Zah rfl (fun hb => ?_) (fun hb => ?_) <;> (repeat (first | replace hb := Zar hb | replace hb := Zas hb)) <;> (try (exfalso; omega)))))
         all_goals (try (exfalso; first | contradiction | omega))
         all_goals (refine ⟨.inr rfl, ret1 rfl (.tmp rfl) (List.nil_sublist _) ⟨congrArg exB ?_, rfl⟩⟩)
         all_goals (first | rfl | (simp; done))
     · (repeat' (first | refine Za7 ?_ | refine Za1 ?_ | refine Za3 ?_ | (apply Za8; (first | exact Za2 rfl | exact Za5 rfl | (apply Zag; exact Zcq rfl rfl) | (apply Zb5; exact Zc7 rfl rfl)); exact rfl) | refine Zax ?_ | (refine Zah rfl (fun hb => ?_) (fun hb => ?_) <;> (repeat (first | replace hb := Zar hb | replace hb := Zas hb)) <;> (try (exfalso; omega)))))
       all_goals (try (exfalso; first | contradiction | omega))
       all_goals (refine ⟨.inr rfl, ret1 rfl (.tmp rfl) (List.nil_sublist _) ⟨congrArg exB ?_, rfl⟩⟩)
       all_goals (first | rfl | (simp; done))
   · exact absurd h0 g
   · exact absurd h1 g
 · generalize lexA s = z at hlx hgo
   obtain ⟨l, i, e⟩ := z
   unfold lexV at hlx
   dsimp only at hlx hgo
   generalize parseA s = z2 at hpa hgo
   obtain ⟨r, at_, e2⟩ := z2
   dsimp only at hgo
   refine Zbk Tryz.func7 rfl Tryz.ntmps7 rfl fun w0 F0 out => ?_
   (repeat' (first | (apply Zck 7; refine StopW.out ?_) | refine Za7 ?_ | refine Za1 ?_ | refine Za3 ?_ | (apply Za8; (first | exact Za2 rfl | exact Za5 rfl | exact Zb1 (b := true) rfl (fun _ => rfl) (fun e => by cases e) | exact Zb1 (b := false) rfl (fun e => by cases e) (fun _ => rfl) | exact Zbs rfl rfl | (apply Zag; exact Zcq rfl rfl) | (apply Zb5; exact Zc7 rfl rfl) | (apply g_un; exact Zcl rfl)); exact rfl) | (refine Zcc rfl rfl rfl rfl rfl ?_) | (apply Zcd; exact rfl; exact rfl; exact rfl; (first | exact Za2 rfl | (apply Zag; first | exact Zc8 rfl rfl | exact Zcq rfl rfl) | (apply Zb5; exact Zbq rfl rfl)); exact rfl) | refine Zan ?_ | refine Zax ?_ | refine Zav rfl ?_ | refine Zaz rfl ?_ | (apply Zab; exact rfl; first | (apply Zae; first | (refine Zaa (.dup 0 rfl rfl .nil) Tryz.func10 rfl sane13_any rfl ?_; rintro _ _ ⟨rfl, rfl⟩) | (refine Zaa (.dup 0 rfl rfl .nil) Tryz.func17 rfl hlx rfl ?_; rintro _ _ ⟨rfl, rfl⟩) | (refine Zaa (.dup 0 rfl rfl .nil) Tryz.func11 rfl hpa rfl ?_; rintro _ _ ⟨⟨k1, rfl⟩, rfl⟩)) | (apply Zbo; refine Zbf ?_; intro _) | (apply Zay; refine Zal (k := 0) (l0 := []) rfl rfl rfl ?_)) | (refine Zbu rfl rfl (fun hb => ?_) (fun hb => ?_) <;> (repeat (first | replace hb := Zar hb | replace hb := Zas hb | replace hb := Zc5 hb | replace hb := Zc6 hb)) <;> (try (exfalso; fail))) | (refine Zah rfl (fun hb => ?_) (fun hb => ?_) <;> (repeat (first | replace hb := Zar hb | replace hb := Zas hb)) <;> (try (exfalso; fail)))))
   all_goals (try (exfalso; first | contradiction | (refine hgo ⟨?_, ?_, ?_, ?_⟩ <;> omega)))
   all_goals (refine ⟨.inr rfl, ret1 rfl (.tmp rfl) (List.nil_sublist _) ⟨congrArg exB ?_, rfl⟩⟩)
   all_goals (first | rfl | (simp; done))
end Go.Proofs.YthdldeenpgeemaaGreatDoor
namespace Go.Sx
open Go.Lx Go.Fr
theorem joinF_pre : ∀ (a b : List (List UInt8)), (joinF a).isPrefixOf (joinF (a ++ b)) = true
 | [], b => by simp [joinF]
 | [w], [] => by rw [List.append_nil, List.isPrefixOf_iff_prefix]; exact List.prefix_rfl
 | [w], v :: b => by rw [List.isPrefixOf_iff_prefix]; exact List.prefix_append w _
 | w :: v :: a, b => by
   have ih := joinF_pre (v :: a) b
   rw [List.isPrefixOf_iff_prefix] at ih ⊢
   obtain ⟨t, ht⟩ := ih
   refine ⟨t, ?_⟩
   rw [List.cons_append, List.cons_append, joinF_cons, joinF_cons, List.append_assoc, List.cons_append, ht]; rfl
end Go.Sx
namespace Go.Proofs.YthdldeenpgeemaaGreatDoor
open Go Go.RowKit Go.Kx Go.Fr Go.Lx Go.Sx
set_option maxHeartbeats 4000000 in
set_option maxRecDepth 100000 in
theorem syntaxChange_any (s : List UInt8) (n : Int) (ot : TokD) : FnC Tryz.prog 6 [exT s, exI .i64 n, agg (tokV ot)] [Lab] (fun p loc => p = exB true ∧ loc = []) := by
 have hlx := lex3_any s
 have hpa := parse13_any s
 have hva := r3valid_any ot
 by_cases hgo : s.length ≤ 2000 ∧ (lexA s).2.2 = 0 ∧ (parseA s).2.2 = 0 ∧ (lexA s).1.length ≠ 0 ∧ (lexA s).1.length ≤ 1000 ∧ validB ot = true
 · obtain ⟨hs, h0, h1, hl0, hl, hvo⟩ := hgo
   rcases two_cases s (by omega) with ⟨l, r, g1, hv, g3, g4, g5, g6⟩ | g | g
   · rw [g5] at hlx hl hl0
     rw [g6] at hpa
     rw [hvo] at hva
     unfold lexV at hlx
     dsimp only at hlx hl hl0
     have hNs := u64_nt n
     generalize hsu : (n % 18446744073709551616).toNat = su at *
     have hql : su % l.length < l.length := Nat.mod_lt _ (by omega)
     have hwk : IntKind.i64.wrap ((su % l.length : Nat) : Int) = ((su % l.length : Nat) : Int) := IntWalk.i64_in _ ⟨by generalize su % l.length = q at *; omega, by generalize su % l.length = q at *; omega⟩
     refine Zbk Tryz.func6 rfl Tryz.ntmps6 rfl fun w0 F0 out => ?_
     (repeat' (first | (apply Zao 61; apply Za8; exact WT_convw (m := n) rfl rfl rfl; exact rfl) | (apply Zao 64; apply Za8; exact WT_conv (m := (l.length : Int)) rfl rfl rfl (u64_in (by omega) (by omega)); exact rfl) | (apply Zao 66; apply Za8; exact WT_conv (m := ((su % l.length : Nat) : Int)) rfl rfl rfl hwk; exact rfl) | (apply Zck 8; refine StopW.out ?_) | refine Za7 ?_ | refine Za1 ?_ | refine Za3 ?_ | (apply Za8; (first | exact Za2 rfl | exact Za5 rfl | exact Zb1 (b := false) rfl (fun e => by cases e) (fun _ => rfl) | exact Zbs rfl rfl | (apply Zag; first | exact Zcq rfl rfl | exact WT_rem rfl rfl) | (apply Zb5; first | exact Zc7 rfl rfl | exact Zbq rfl rfl) | (apply g_un; exact Zcl rfl)); exact rfl) | (apply Zcd; exact rfl; exact rfl; exact rfl; (first | exact Za2 rfl | (apply Za9; exact Zbm (k := 1) rfl rfl rfl) | (apply Zag; first | exact Zbr rfl rfl | exact Zc8 rfl rfl | exact Zcq rfl rfl) | (apply Zb5; exact Zbq rfl rfl) | (apply g_un; exact Zcl rfl)); exact rfl) | refine Zan ?_ | refine Zaz rfl ?_ | (apply Zab; exact rfl; first | (apply Zae; first | (refine Zaa (.dup 1 rfl rfl .nil) Tryz.func10 rfl sane13_any rfl ?_; rintro _ _ ⟨rfl, rfl⟩) | (refine Zaa (.dup 1 rfl rfl .nil) Tryz.func17 rfl hlx rfl ?_; rintro _ _ ⟨rfl, rfl⟩) | (refine Zaa (.dup 1 rfl rfl .nil) Tryz.func11 rfl hpa rfl ?_; rintro _ _ ⟨⟨k1, rfl⟩, rfl⟩)) | (apply Zda; refine Zd4 rfl ?_; intro _) | (apply Zbo; refine Zbf ?_; intro _) | (apply Zay; refine Zal (k := 0) (l0 := []) rfl rfl rfl ?_)) | (apply Zct; exact rfl; exact rfl; exact rfl; exact rfl; (apply Zae; (refine Zbd Tryz.func18 rfl hva rfl ?_; rintro _ _ ⟨rfl, rfl⟩))) | (refine Zbu rfl rfl (fun hb => ?_) (fun hb => ?_) <;> (repeat (first | replace hb := Zar hb | replace hb := Zas hb)) <;> (try (exfalso; omega)))))
     all_goals (try (exfalso; first | contradiction | omega))
     refine ⟨?_⟩
     generalize su % l.length = q at *
     have hvm : ∀ t ∈ l.set q ot, validB t = true := fun t ht => by
       rcases List.mem_or_eq_of_mem_set ht with h | rfl
       · exact hv t h
       · exact hvo
     have hml : (l.set q ot).length = l.length := List.length_set
     have hmt : (l.set q ot).take q = l.take q := by rw [List.take_set_of_le (Nat.le_refl _)]
     have hvt : ∀ t ∈ (l.set q ot).take q, validB t = true := fun t ht => hvm t (List.mem_of_mem_take ht)
     have htx := text3_any (l.set q ot)
     rw [textA_yes hvm] at htx
     have hty := text3_any ((l.set q ot).take q)
     rw [textA_yes hvt] at hty
     unfold textV at htx hty
     dsimp only at htx hty
     have hpre := hasPrefix_any (joinF ((l.set q ot).map word)) (joinF (((l.set q ot).take q).map word))
     have hjp : (joinF (((l.set q ot).take q).map word)).isPrefixOf (joinF ((l.set q ot).map word)) = true := by
       have := joinF_pre (((l.set q ot).take q).map word) (((l.set q ot).drop q).map word)
       rwa [← List.map_append, List.take_append_drop] at this
     rw [hjp] at hpre
     have hchg := change_plain (i := q) (m := l.set q ot) g4 (by rw [hml]; omega) hmt
     have hpb := parse13_any (joinF ((l.set q ot).map word))
     refine Zbi (Leads_fp (k := 1) (t := 5) rfl rfl) ?_
     refine Zbi (env' := [(5, fp (tokV ot)), (7, isl eTok l), (13, exI .i64 (q : Int))]) (loc' := [Lab]) (Zac (by repeat (first | exact Zak | refine Zaf rfl ?_)) (by first | exact List.Sublist.refl _ | exact .cons _ (.refl _))) ?_
     (repeat' (first | (apply Zck 9; refine StopW.out ?_) | refine Za7 ?_ | refine Za1 ?_ | refine Za3 ?_ | (apply Za8; (first | exact Za2 rfl | exact Za5 rfl); exact rfl) | (apply Zab; exact rfl; first | (apply g_append; ((refine WO_append_row (k := 0) (l0 := []) rfl rfl rfl rfl (by exact Src_isl rfl) rfl ?_)); intro _) | (apply Zb6; (refine WO_bslice0 rfl ?_); intro _))))
     refine ⟨?_⟩
     rename_i v14
     refine Zbi (env' := [(5, fp (tokV ot)), (13, exI .i64 (q : Int)), (14, ex v14)]) (loc' := [vec v14 40 4 l.length (l.flatMap tokV), Lab]) (Zac (by repeat (first | exact Zak | refine Zaf rfl ?_)) (by first | exact List.Sublist.refl _ | (simp only [List.nil_append, Nat.zero_add]; exact List.Sublist.refl _))) ?_
     refine WP_vec3 (k := 0) rfl (by omega) ?_
     intro b14 c14 hv14 hn1 hn2
     subst hv14
     (repeat' (first | (apply Zck 10; refine StopW.out ?_) | refine Za7 ?_ | refine Za1 ?_ | refine Za3 ?_ | (apply Za8; (first | exact Za2 rfl | (apply Za9; exact Zb9 rfl rfl) | (apply Zb2; exact WT_indexo rfl rfl rfl)); exact rfl) | (apply Zab; exact rfl; (apply Zay; refine WO_storeE (k := 0) (l0 := []) rfl rfl rfl ?_))))
     refine ⟨?_⟩
     refine Zbi (Zby (k := 0) (E := eTok) (t := 14) (c := c14) (l.set q ot) rfl rfl rfl hml rfl hn2 (hby := by show _ * 40 ≤ _; omega)) ?_
     generalize l.set q ot = m at *
     refine Zbi (env' := [(13, exI .i64 (q : Int)), (14, isl eTok m)]) (loc' := [Lab]) (Zac (by repeat (first | exact Zak | refine Zaf rfl ?_)) (List.Sublist.refl _)) ?_
     generalize hJ : joinF (m.map word) = J at *
     generalize hI : joinF ((m.take q).map word) = I at *
     by_cases hj : J.length ≤ 65536
     · have hpj := parse_join hvm (by rw [hJ]; exact hj)
       rw [hJ] at hpj
       rw [hpj] at hpb
       rcases hchg with ⟨y, hy⟩ | ⟨at_, hy, hy1, hy2⟩
       · rw [hy] at hpb
         (repeat' (first | refine Za7 ?_ | refine Za1 ?_ | refine Za3 ?_ | (apply Za8; (first | exact Za2 rfl | exact Za5 rfl | exact Zb1 (b := true) rfl (fun _ => rfl) (fun e => by cases e) | exact Zb1 (b := false) rfl (fun e => by cases e) (fun _ => rfl) | exact Zbs rfl rfl | (apply Zag; first | exact Zbr rfl rfl | exact Zc8 rfl rfl | exact Zcq rfl rfl) | (apply g_slice; exact WT_slch rfl rfl rfl) | (apply Zb5; exact Zc7 rfl rfl)); exact rfl) | (refine Zcc rfl rfl rfl rfl rfl ?_) | (refine WPL_offu rfl rfl rfl rfl ?_) | (apply Zcd; exact rfl; exact rfl; exact rfl; (first | exact Za2 rfl | (apply Zag; first | exact Zbr rfl rfl | exact Zc8 rfl rfl) | (apply g_un; exact Zcl rfl)); exact rfl) | refine Zan ?_ | refine Zax ?_ | refine Zaz rfl ?_ | (apply Zab; exact rfl; first | (apply Zae; first | (refine Zaa (.dup 0 rfl rfl .nil) Tryz.func19 rfl htx rfl ?_; rintro _ _ ⟨rfl, rfl⟩) | (refine Zaa (.dup 0 rfl rfl .nil) Tryz.func19 rfl hty rfl ?_; rintro _ _ ⟨rfl, rfl⟩) | (refine Zaa (.dup 0 rfl rfl .nil) Tryz.func11 rfl hpb rfl ?_; rintro _ _ ⟨⟨k2, rfl⟩, rfl⟩)) | (apply Zbo; refine Zbf ?_; intro _) | (apply Zay; refine Zal (k := 0) (l0 := []) rfl rfl rfl ?_)) | (apply Zct; exact rfl; exact rfl; exact rfl; exact rfl; (apply Zae; (refine Zbd Tryz.func20 rfl hpre rfl ?_; rintro _ _ ⟨rfl, rfl⟩))) | (refine Zah rfl (fun hb => ?_) (fun hb => ?_) <;> (repeat (first | replace hb := Zar hb | replace hb := Zas hb)) <;> (try (exfalso; omega)))))
         all_goals (try (exfalso; first | contradiction | omega))
         all_goals (refine ⟨.inr rfl, ret1 rfl (.tmp rfl) (List.nil_sublist _) ⟨congrArg exB ?_, rfl⟩⟩)
         all_goals (first | rfl | (simp; done))
       · rw [hy] at hpb
         (repeat' (first | refine Za7 ?_ | refine Za1 ?_ | refine Za3 ?_ | (apply Za8; (first | exact Za2 rfl | exact Za5 rfl | exact Zb1 (b := false) rfl (fun e => by cases e) (fun _ => rfl) | exact Zbs rfl rfl | (apply Zag; first | exact Zbr rfl rfl | exact Zc8 rfl rfl | exact Zcq rfl rfl) | (apply g_slice; exact WT_slch rfl rfl rfl) | (apply Zb5; exact Zc7 rfl rfl)); exact rfl) | (refine Zcc rfl rfl rfl rfl rfl ?_) | (apply Zcd; exact rfl; exact rfl; exact rfl; (first | exact Za2 rfl | exact Zb1 (b := true) rfl (fun _ => rfl) (fun e => by cases e) | exact Zb1 (b := false) rfl (fun e => by cases e) (fun _ => rfl) | (apply Zag; first | exact Zbr rfl rfl | exact Zc8 rfl rfl | exact WT_leq rfl rfl | exact WT_geq rfl rfl) | (apply Zb5; exact Zc7 rfl rfl) | (apply g_un; exact Zcl rfl)); exact rfl) | refine Zan ?_ | refine Zax ?_ | refine Zaz rfl ?_ | (apply Zab; exact rfl; first | (apply Zae; first | (refine Zaa (.dup 0 rfl rfl .nil) Tryz.func19 rfl htx rfl ?_; rintro _ _ ⟨rfl, rfl⟩) | (refine Zaa (.dup 0 rfl rfl .nil) Tryz.func19 rfl hty rfl ?_; rintro _ _ ⟨rfl, rfl⟩) | (refine Zaa (.dup 0 rfl rfl .nil) Tryz.func11 rfl hpb rfl ?_; rintro _ _ ⟨⟨k2, rfl⟩, rfl⟩)) | (apply Zbo; refine Zbf ?_; intro _) | (apply Zay; refine Zal (k := 0) (l0 := []) rfl rfl rfl ?_)) | (apply Zct; exact rfl; exact rfl; exact rfl; exact rfl; (apply Zae; (refine Zbd Tryz.func20 rfl hpre rfl ?_; rintro _ _ ⟨rfl, rfl⟩))) | (refine Zbu rfl rfl (fun hb => ?_) (fun hb => ?_) <;> (repeat (first | replace hb := Zar hb | replace hb := Zas hb)) <;> (try (exfalso; fail))) | (refine Zah rfl (fun hb => ?_) (fun hb => ?_) <;> (repeat (first | replace hb := Zar hb | replace hb := Zas hb)) <;> (try (exfalso; omega)))))
         all_goals (try (exfalso; first | contradiction | omega))
         all_goals (refine ⟨.inr rfl, ret1 rfl (.tmp rfl) (List.nil_sublist _) ⟨congrArg exB ?_, rfl⟩⟩)
         all_goals (first | rfl | (simp; done) | (dsimp only at *; simp; omega))
     · (repeat' (first | refine Za7 ?_ | refine Za1 ?_ | refine Za3 ?_ | (apply Za8; (first | exact Za2 rfl | exact Za5 rfl | exact Zb1 (b := false) rfl (fun e => by cases e) (fun _ => rfl) | exact Zbs rfl rfl | (apply Zag; first | exact Zc8 rfl rfl | exact Zcq rfl rfl) | (apply g_slice; exact WT_slch rfl rfl rfl) | (apply Zb5; exact Zc7 rfl rfl)); exact rfl) | (apply Zcd; exact rfl; exact rfl; exact rfl; (first | exact Za2 rfl | (apply Zag; exact Zc8 rfl rfl) | (apply g_un; exact Zcl rfl)); exact rfl) | refine Zan ?_ | refine Zax ?_ | refine Zaz rfl ?_ | (apply Zab; exact rfl; (apply Zae; first | (refine Zaa (.dup 0 rfl rfl .nil) Tryz.func19 rfl htx rfl ?_; rintro _ _ ⟨rfl, rfl⟩) | (refine Zaa (.dup 0 rfl rfl .nil) Tryz.func19 rfl hty rfl ?_; rintro _ _ ⟨rfl, rfl⟩))) | (apply Zct; exact rfl; exact rfl; exact rfl; exact rfl; (apply Zae; (refine Zbd Tryz.func20 rfl hpre rfl ?_; rintro _ _ ⟨rfl, rfl⟩))) | (refine Zah rfl (fun hb => ?_) (fun hb => ?_) <;> (repeat (first | replace hb := Zar hb | replace hb := Zas hb)) <;> (try (exfalso; omega)))))
       all_goals (try (exfalso; first | contradiction | omega))
       all_goals (refine ⟨.inr rfl, ret1 rfl (.tmp rfl) (List.nil_sublist _) ⟨congrArg exB ?_, rfl⟩⟩)
       all_goals (first | rfl | (simp; done))
   · exact absurd h0 g
   · exact absurd h1 g
 · generalize lexA s = z at hlx hgo
   obtain ⟨l, i, e⟩ := z
   unfold lexV at hlx
   dsimp only at hlx hgo
   generalize parseA s = z2 at hpa hgo
   obtain ⟨r, at_, e2⟩ := z2
   dsimp only at hgo
   generalize validB ot = bo at hva hgo
   refine Zbk Tryz.func6 rfl Tryz.ntmps6 rfl fun w0 F0 out => ?_
   (repeat' (first | (apply Zck 7; refine StopW.out ?_) | refine Za7 ?_ | refine Za1 ?_ | refine Za3 ?_ | (apply Za8; (first | exact Za2 rfl | exact Za5 rfl | exact Zb1 (b := true) rfl (fun _ => rfl) (fun e => by cases e) | exact Zb1 (b := false) rfl (fun e => by cases e) (fun _ => rfl) | exact Zbs rfl rfl | (apply Zag; exact Zcq rfl rfl) | (apply Zb5; exact Zc7 rfl rfl) | (apply g_un; exact Zcl rfl)); exact rfl) | (refine Zcc rfl rfl rfl rfl rfl ?_) | (apply Zcd; exact rfl; exact rfl; exact rfl; (first | exact Za2 rfl | (apply Za9; exact Zbm (k := 1) rfl rfl rfl) | (apply Zag; first | exact Zbr rfl rfl | exact Zc8 rfl rfl | exact Zcq rfl rfl) | (apply Zb5; exact Zbq rfl rfl) | (apply g_un; exact Zcl rfl)); exact rfl) | refine Zan ?_ | refine Zax ?_ | refine Zav rfl ?_ | refine Zaz rfl ?_ | (apply Zab; exact rfl; first | (apply Zae; first | (refine Zaa (.dup 1 rfl rfl .nil) Tryz.func10 rfl sane13_any rfl ?_; rintro _ _ ⟨rfl, rfl⟩) | (refine Zaa (.dup 1 rfl rfl .nil) Tryz.func17 rfl hlx rfl ?_; rintro _ _ ⟨rfl, rfl⟩) | (refine Zaa (.dup 1 rfl rfl .nil) Tryz.func11 rfl hpa rfl ?_; rintro _ _ ⟨⟨k1, rfl⟩, rfl⟩)) | (apply Zda; refine Zd4 rfl ?_; intro _) | (apply Zbo; refine Zbf ?_; intro _) | (apply Zay; refine Zal (k := 0) (l0 := []) rfl rfl rfl ?_)) | (apply Zct; exact rfl; exact rfl; exact rfl; exact rfl; (apply Zae; (refine Zbd Tryz.func18 rfl hva rfl ?_; rintro _ _ ⟨rfl, rfl⟩))) | (refine Zbu rfl rfl (fun hb => ?_) (fun hb => ?_) <;> (repeat (first | replace hb := Zar hb | replace hb := Zas hb | replace hb := Zc5 hb | replace hb := Zc6 hb)) <;> (try (exfalso; fail))) | (refine Zah rfl (fun hb => ?_) (fun hb => ?_) <;> (repeat (first | replace hb := Zc5 hb | replace hb := Zc6 hb)) <;> (try (exfalso; fail)))))
   all_goals (try (exfalso; first | contradiction | (refine hgo ⟨?_, ?_, ?_, ?_, ?_, ?_⟩ <;> first | omega | assumption)))
   all_goals (refine ⟨.inr rfl, ret1 rfl (.tmp rfl) (List.nil_sublist _) ⟨congrArg exB ?_, rfl⟩⟩)
   all_goals (first | rfl | (simp; done))
end Go.Proofs.YthdldeenpgeemaaGreatDoor
namespace Go.Sx
open Go.Lx Go.Fr
end Go.Sx
namespace Go.Proofs.YthdldeenpgeemaaGreatDoor
open Go Go.RowKit Go.Kx Go.Fr Go.Lx Go.Sx
end Go.Proofs.YthdldeenpgeemaaGreatDoor
namespace Go.Proofs.YthdldeenpgeemaaGreatDoor
open Go Go.RowKit Go.Kx Go.Fr
end Go.Proofs.YthdldeenpgeemaaGreatDoor
namespace Go.Proofs.YthdldeenpgeemaaGreatDoor
open Go Go.RowKit Go.Kx Go.Fr
end Go.Proofs.YthdldeenpgeemaaGreatDoor
namespace Go.Fr
open Go.RowKit Go.Kx
end Go.Fr
namespace Go.Sx
open Go.Lx Go.Fr
theorem part_len (p : Int × List TokD) : (partT p).length ≤ p.2.length + 2 := by
 unfold partT
 split
 · simp only [List.length_append, List.length_cons, List.length_nil]; omega
 · omega
theorem frac_len (n d : Int) : (fracT n d).length ≤ 3 := by
 unfold fracT
 split <;> simp
theorem asm_len (k : Int) (s : List UInt8) (n d : Int) (ps : List (Int × List TokD)) : (asmT k s n d ps).length ≤ 5 + (ps.map fun p => p.2.length + 2).sum := by
 unfold asmT
 by_cases ha : ps.length = arityN k
 · simp only [if_neg (show ¬ ps.length ≠ arityN k from fun h => h ha)]
   have hf := frac_len n d
   by_cases h1 : k = 1
   · rw [if_pos h1]; omega
   rw [if_neg h1]
   by_cases h8 : k = 8
   · subst h8
     rw [if_pos rfl]
     obtain ⟨a, rfl⟩ := List.length_eq_one_iff.1 ha
     have := part_len a
     simp only [List.length_append, List.length_cons, List.getElem?_cons_zero, Option.map_some, Option.getD_some, List.map_cons, List.map_nil, List.sum_cons, List.sum_nil]; omega
   rw [if_neg h8]
   by_cases h2 : k = 2
   · rw [if_pos h2]; simp; omega
   rw [if_neg h2]
   by_cases h3 : k = 3
   · rw [if_pos h3]; simp; omega
   rw [if_neg h3]
   by_cases h4 : k = 4
   · rw [if_pos h4]; simp; omega
   rw [if_neg h4]
   by_cases h5 : k = 5
   · rw [if_pos h5]; simp; omega
   rw [if_neg h5]
   have two : arityN k = 2 → ∃ a b, ps = [a, b] := fun e => by
     rw [e] at ha
     match ps, ha with
     | [a, b], _ => exact ⟨a, b, rfl⟩
   by_cases h6 : k = 6
   · obtain ⟨a, b, rfl⟩ := two (by subst h6; rfl)
     rw [if_pos h6]
     have := part_len b
     simp only [List.length_append, List.length_cons, List.getElem?_cons_zero, List.getElem?_cons_succ, Option.map_some, Option.getD_some, List.map_cons, List.map_nil, List.sum_cons, List.sum_nil]; omega
   rw [if_neg h6]
   by_cases h7 : k = 7
   · obtain ⟨a, b, rfl⟩ := two (by subst h7; rfl)
     rw [if_pos h7]
     have := part_len b
     simp only [List.length_append, List.length_cons, List.getElem?_cons_zero, List.getElem?_cons_succ, Option.map_some, Option.getD_some, List.map_cons, List.map_nil, List.sum_cons, List.sum_nil]; omega
   rw [if_neg h7]
   by_cases h9 : k = 9
   · obtain ⟨a, b, rfl⟩ := two (by subst h9; rfl)
     rw [if_pos h9]
     simp only [List.length_append, List.length_cons, List.length_nil, List.getElem?_cons_zero, List.getElem?_cons_succ, Option.map_some, Option.getD_some, List.map_cons, List.map_nil, List.sum_cons, List.sum_nil]; omega
   rw [if_neg h9]
   by_cases h10 : k = 10
   · obtain ⟨a, b, rfl⟩ := two (by subst h10; rfl)
     rw [if_pos h10]
     simp only [List.length_append, List.length_cons, List.length_nil, List.getElem?_cons_zero, List.getElem?_cons_succ, Option.map_some, Option.getD_some, List.map_cons, List.map_nil, List.sum_cons, List.sum_nil]; omega
   rw [if_neg h10]
   by_cases h11 : k = 11
   · subst h11
     rw [if_pos rfl]
     match ps, ha with
     | [a, b, c, e], _ =>
       simp only [List.length_append, List.length_cons, List.length_nil, List.getElem?_cons_zero, List.getElem?_cons_succ, Option.map_some, Option.getD_some, List.map_cons, List.map_nil, List.sum_cons, List.sum_nil]; omega
   rw [if_neg h11]; simp
 · rw [if_pos ha]; simp
mutual
theorem exT_len : ∀ x : Ex, (exT' x).length + 2 ≤ 7 * x.tot
 | .mk k s n d l => by
   have h1 := asm_len k s n d (exTs l)
   have h2 := exTs_len l
   rw [exT', Ex.tot_l]
   show _ ≤ 7 * (1 + Ex.tots l)
   omega
theorem exTs_len : ∀ l : List Ex, ((exTs l).map fun p => p.2.length + 2).sum ≤ 7 * Ex.tots l
 | [] => Nat.le_refl _
 | x :: l => by
   have h1 := exT_len x
   have h2 := exTs_len l
   rw [exTs, List.map_cons, List.sum_cons, Ex.tots]
   show (exT' x).length + 2 + _ ≤ _
   omega
end
end Go.Sx
namespace Go.Proofs.YthdldeenpgeemaaGreatDoor
open Go Go.RowKit Go.Kx Go.Fr Go.Lx Go.Sx
end Go.Proofs.YthdldeenpgeemaaGreatDoor
namespace Go.Sx
open Go.Lx Go.Fr
end Go.Sx
namespace Go.Proofs.YthdldeenpgeemaaGreatDoor
open Go Go.RowKit Go.Kx Go.Fr Go.Lx Go.Sx
end Go.Proofs.YthdldeenpgeemaaGreatDoor
namespace Go.Proofs.YthdldeenpgeemaaGreatDoor
open Go Go.RowKit Go.Kx Go.Fr Go.Lx Go.ChangeShapes Go.WideShapes
theorem arg_token {W : World} {v : Value} (h : ArgIn Tryz.prog W 40 v) : ∃ (_K : Nat) (r : TokD), (agg (tokV r)).rel (fun _ => True) W v := ArgIn.agg (E := fun _ => eTok) (gs := fun _ => tokV) h Tryz.underlying40 rdTok fun _ => fits_encS
instance {k : Nat} : LenS (rulesV k) 9 := ⟨fun _ => rfl⟩
end Go.Proofs.YthdldeenpgeemaaGreatDoor
