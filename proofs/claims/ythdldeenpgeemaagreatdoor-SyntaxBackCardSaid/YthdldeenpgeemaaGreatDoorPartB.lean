/- Chapter 13: what was parsed is printed so that it is parsed again. No program in sight. -/
import Derived.Test.YthdldeenpgeemaaGreatDoorPart9
import Derived.Test.YthdldeenpgeemaaGreatDoorPartA
import Derived.Test.YthdldeenpgeemaaGreatDoorPart2
import Derived.Test.YthdldeenpgeemaaGreatDoorPart5
import Derived.ProofKit
namespace Go.Sx
open Go.Lx Go.Fr
variable {α β σ : Type}
structure Up (f g : List TokD → Res α) : Prop where
 into : ∀ {ts x r}, f ts = .ok (x, r) → g ts = .ok (x, r)
theorem Zdc (f : List TokD → Res α) : Up f f := ⟨fun h => h⟩
theorem up_fail (g : List TokD → Res α) : Up (fun ts => .error ts) g := ⟨fun h => by cases h⟩
theorem Zdo {f f' : List TokD → Res α} {g g' : α → List TokD → Res β} (hf : Up f f') (hg : ∀ x, Up (g x) (g' x)) : Up (bnd f g) (bnd f' g') := ⟨fun h => by
 obtain ⟨x, u, h1, h2⟩ := Zd1 h
 rw [Zal (hf.into h1)]; exact (hg x).into h2⟩
theorem up_if {test : List TokD → Bool} {f f' g g' : List TokD → Res α} (hf : Up f f') (hg : Up g g') : Up (fun ts => if test ts then f ts else g ts) (fun ts => if test ts then f' ts else g' ts) := ⟨fun {ts x r} h => by
 cases hb : test ts with
 | true => simp only [hb, if_true] at h ⊢; exact hf.into h
 | false => simp only [hb] at h ⊢; exact hg.into h⟩
theorem up_gate {ok ok' : Bool} {f f' : List TokD → Res α} (ho : ok = true → ok' = true) (h : Up f f') : Up (gate ok f) (gate ok' f') := by
 cases ok
 · exact ⟨fun h => by cases h⟩
 · rw [ho rfl]; exact h
theorem up_loop {test : List TokD → Bool} {item item' : σ → List TokD → Res σ} (h : ∀ s, Up (item s) (item' s)) : ∀ (n : Nat) (s : σ), Up (loopP test item n s) (loopP test item' n s)
 | 0, _ => Zdc _
 | n + 1, s => ⟨fun {ts x r} e => by
   rw [loopP] at e ⊢
   by_cases hb : test ts = true
   · rw [if_pos hb] at e ⊢
     cases he : item s ts with
     | error e' => rw [he] at e; cases e
     | ok q =>
       obtain ⟨s', u⟩ := q
       rw [he] at e
       rw [(h s).into he]
       exact (up_loop h n s').into e
   · rw [if_neg hb] at e ⊢; exact e⟩
theorem up_run {test : List TokD → Bool} {item item' : σ → List TokD → Res σ} (h : ∀ s, Up (item s) (item' s)) (s : σ) : Up (runP test item s) (runP test item' s) := ⟨fun {ts _ _} e => (up_loop h ts.length s).into e⟩
section
variable {tm tm' ex ex' : List TokD → Res Ex}
theorem up_addStep (h : Up tm tm') (x : Ex) : Up (addStep tm x) (addStep tm' x) := up_if (Zdo (Zdc _) fun _ => Zdo h fun _ => Zdc _) (Zdo (Zdc _) fun _ => Zdo h fun _ => Zdc _)
theorem up_exprOf (h : Up tm tm') : Up (exprOf tm) (exprOf tm') := Zdo h fun x => up_run (up_addStep h) x
theorem up_pair (h : Up ex ex') (k : Int) : Up (pairP ex k) (pairP ex' k) := Zdo (Zdc _) fun _ => Zdo h fun _ => Zdo (Zdc _) fun _ => Zdo h fun _ => Zdc _
theorem up_factor {ok ok' : Bool} (ho : ok = true → ok' = true) (h : Up ex ex') : Up (factorB ok ex) (factorB ok' ex') :=
 up_if (Zdc _) (up_if (Zdc _) (up_if (Zdc _) (up_if (Zdc _) (up_if (up_gate ho (Zdo (Zdc _) fun _ => up_pair h 9)) (up_if (up_gate ho (Zdo (Zdc _) fun _ => up_pair h 10))
   (up_if (up_gate ho (Zdo (Zdc _) fun _ => Zdo h fun _ => Zdo (Zdc _) fun _ => Zdo h fun _ => Zdo (Zdc _) fun _ => Zdo h fun _ => Zdo (Zdc _) fun _ => Zdo h fun _ => Zdc _))
   (up_if (up_gate ho (Zdo (Zdc _) fun _ => Zdo h fun _ => Zdc _)) (Zdc _))))))))
theorem up_term {ok ok' : Bool} (ho : ok = true → ok' = true) (ht : Up tm tm') (hx : Up ex ex') : Up (termB ok tm ex) (termB ok' tm' ex') :=
 up_if (Zdo (Zdc _) fun _ => up_if (up_gate ho (Zdo (Zdc _) fun _ => Zdo ht fun _ => Zdc _)) (Zdc _)) (up_factor ho hx)
end
theorem up_termN : ∀ n, Up (termN n) (termN (n + 1))
 | 0 => up_term (fun h => by cases h) (up_fail _) (up_fail _)
 | n + 1 => up_term (fun h => h) (up_termN n) (up_exprOf (up_termN n))
structure Yl (f : List TokD → Res α) (P : α → Nat → Prop) : Prop where
 into : ∀ {ts x r}, (∀ t ∈ ts, validB t = true) → f ts = .ok (x, r) → ∃ c, ts = c ++ r ∧ P x c.length
theorem Zbo {f : List TokD → Res α} {g : α → List TokD → Res β} {P : α → Nat → Prop} {R : β → Nat → Prop} (hf : Yl f P) (hg : ∀ x k, P x k → Yl (g x) fun y m => R y (k + m)) : Yl (bnd f g) R := ⟨fun hv h => by
 obtain ⟨x, u, h1, h2⟩ := Zd1 h
 obtain ⟨c1, rfl, p1⟩ := hf.into hv h1
 obtain ⟨c2, rfl, p2⟩ := (hg x _ p1).into (fun t ht => hv t (List.mem_append_right _ ht)) h2
 exact ⟨c1 ++ c2, by simp, by rw [List.length_append]; exact p2⟩⟩
theorem yl_mono {f : List TokD → Res α} {P R : α → Nat → Prop} (hf : Yl f P) (h : ∀ x k, P x k → R x k) : Yl f R := ⟨fun hv e => by
 obtain ⟨c, h1, h2⟩ := hf.into hv e
 exact ⟨c, h1, h _ _ h2⟩⟩
theorem Zdu {test : List TokD → Bool} {f g : List TokD → Res α} {P : α → Nat → Prop} (hf : Yl f P) (hg : Yl g P) : Yl (fun ts => if test ts then f ts else g ts) P := ⟨fun {ts x r} hv h => by
 cases hb : test ts with
 | true => simp only [hb, if_true] at h; exact hf.into hv h
 | false => simp only [hb] at h; exact hg.into hv h⟩
theorem Zd2 {x : α} {P : α → Nat → Prop} (h : P x 0) : Yl (ret x) P := ⟨fun _ e => by injection e with e; injection e with e1 e2; subst e1 e2; exact ⟨[], rfl, h⟩⟩
theorem yl_fail {P : α → Nat → Prop} : Yl (fun ts => (.error ts : Res α)) P := ⟨fun _ e => by cases e⟩
theorem yl_gate {ok : Bool} {f : List TokD → Res α} {P : α → Nat → Prop} (h : ok = true → Yl f P) : Yl (gate ok f) P := by
 cases ok
 · exact ⟨fun _ e => by cases e⟩
 · exact h rfl
theorem Zcm (w : List UInt8) : Yl (want w) fun _ k => k = 1 := ⟨fun _ e => by
 obtain ⟨t, rfl, -⟩ := want_ok e
 exact ⟨[t], rfl, rfl⟩⟩
def NmOk (s : List UInt8) : Prop := validB (tkW s) = true ∧ reservedB s = false
theorem yl_name : Yl nameP fun s k => k = 1 ∧ NmOk s := ⟨fun hv e => by
 obtain ⟨t, rfl, h1, h2, rfl⟩ := name_ok e
 refine ⟨[t], rfl, rfl, ?_, h2⟩
 have := hv t (by simp)
 unfold validB at this
 rw [if_pos h1] at this
 simp only [Bool.and_eq_true] at this
 show (nameB t.text && decide ((0 : Int) = 0)) = true
 rw [this.1]; rfl⟩
theorem yl_num : Yl numP fun n k => k = 1 ∧ validB (tkN n) = true := ⟨fun hv e => by
 obtain ⟨t, rfl, h1, rfl⟩ := num_ok e
 refine ⟨[t], rfl, rfl, ?_⟩
 have := hv t (by simp)
 unfold validB at this
 rw [if_neg (by rw [h1]; decide), if_pos h1] at this
 simp only [Bool.and_eq_true] at this
 show (decide (([] : List UInt8) = []) && decide (0 ≤ t.n ∧ t.n ≤ 1099511627776)) = true
 rw [this.2]; rfl⟩
theorem yl_loop {test : List TokD → Bool} {item : σ → List TokD → Res σ} {I : σ → Nat → Prop} (h : ∀ s k, I s k → Yl (item s) fun s' m => I s' (k + m)) : ∀ (n : Nat) (s : σ) (k : Nat), I s k → Yl (loopP test item n s) fun s' m => I s' (k + m)
 | 0, s, k, hi => ⟨fun _ e => by rw [loopP] at e; injection e with e; injection e with e1 e2; subst e1 e2; exact ⟨[], rfl, hi⟩⟩
 | n + 1, s, k, hi => ⟨fun {ts x r} hv e => by
   rw [loopP] at e
   by_cases hb : test ts = true
   · rw [if_pos hb] at e
     cases he : item s ts with
     | error e' => rw [he] at e; cases e
     | ok q =>
       obtain ⟨s', u⟩ := q
       rw [he] at e
       obtain ⟨c1, rfl, p1⟩ := (h s k hi).into hv he
       obtain ⟨c2, rfl, p2⟩ := (yl_loop h n s' _ p1).into (fun t ht => hv t (List.mem_append_right _ ht)) e
       exact ⟨c1 ++ c2, by simp, by rw [List.length_append, ← Nat.add_assoc]; exact p2⟩
   · rw [if_neg hb] at e
     injection e with e; injection e with e1 e2; subst e1 e2
     exact ⟨[], rfl, hi⟩⟩
theorem yl_run {test : List TokD → Bool} {item : σ → List TokD → Res σ} {I : σ → Nat → Prop} (h : ∀ s k, I s k → Yl (item s) fun s' m => I s' (k + m)) (s : σ) (k : Nat) (hi : I s k) : Yl (runP test item s) fun s' m => I s' (k + m) := ⟨fun {ts _ _} hv e => (yl_loop h ts.length s k hi).into hv e⟩
theorem want_S (w : List UInt8) (z : List TokD) : want w (tkS w :: z) = .ok ((), z) := by unfold want; rw [if_pos (by unfold isT; simp [tkS])]; rfl
theorem Zdk (w : List UInt8) (z : List TokD) : want w (tkW w :: z) = .ok ((), z) := by unfold want; rw [if_pos (by unfold isT; simp [tkW])]; rfl
theorem name_W {s : List UInt8} (h : reservedB s = false) (z : List TokD) : nameP (tkW s :: z) = .ok (s, z) := by unfold nameP; simp only; rw [if_pos (by unfold isName; simp [tkW, h])]; rfl
theorem num_N (n : Int) (z : List TokD) : numP (tkN n :: z) = .ok (n, z) := by unfold numP; simp only; rw [if_pos (by unfold isNum; simp [tkN])]; rfl
theorem named_W {w s : List UInt8} (h : reservedB s = false) (z : List TokD) : named w (tkW w :: tkW s :: z) = .ok (s, z) := by unfold named; rw [Zal (Zdk w _)]; exact name_W h z
theorem valued_N (w : List UInt8) (n : Int) (z : List TokD) : valued w (tkW w :: tkN n :: z) = .ok (n, z) := by unfold valued; rw [Zal (Zdk w _)]; exact num_N n z
theorem isT_S (v w : List UInt8) (z : List TokD) : isT v (tkS w :: z) = decide (w = v) := by show (decide ((3 : Int) ≠ 2) && decide (w = v)) = _; rw [show decide ((3 : Int) ≠ 2) = true by decide, Bool.true_and]
theorem isT_W (v w : List UInt8) (z : List TokD) : isT v (tkW w :: z) = decide (w = v) := by show (decide ((1 : Int) ≠ 2) && decide (w = v)) = _; rw [show decide ((1 : Int) ≠ 2) = true by decide, Bool.true_and]
def NoSl (z : List TokD) : Prop := isT sSlash z = false ∧ isT sStar z = false
theorem Inert.sl {z : List TokD} (h : Inert z) : NoSl z := h.2.2
abbrev prt (x : Ex) : List TokD := partT (x.kind, exT' x)
def SumE (x : Ex) : Prop := x.kind = 6 ∨ x.kind = 7
instance {x : Ex} : Decidable (SumE x) := inferInstanceAs (Decidable (_ ∨ _))
def TOk (n : Nat) (x : Ex) : Prop := ∀ z, NoSl z → termN n (prt x ++ z) = .ok (x, z)
inductive GOk (n : Nat) : Ex → Prop
 | term {x : Ex} (h : ¬ SumE x) (ht : TOk n x) : GOk n x
 | sum {k : Int} {a y : Ex} (h : k = 6 ∨ k = 7) (ha : GOk n a) (ht : TOk n y) : GOk n (.mk k [] 0 0 [a, y])
theorem TOk.up {n : Nat} {x : Ex} (h : TOk n x) : TOk (n + 1) x := fun z hz => (up_termN n).into (h z hz)
theorem GOk.up {n : Nat} {x : Ex} (h : GOk n x) : GOk (n + 1) x := by
 induction h with
 | term h ht => exact .term h ht.up
 | sum h _ ht ih => exact .sum h ih ht.up
theorem prt_no {x : Ex} (h : ¬ SumE x) : prt x = exT' x := by unfold prt partT; rw [if_neg (show ¬ ((x.kind, exT' x).1 = 6 ∨ (x.kind, exT' x).1 = 7) from h)]
theorem prt_sum {x : Ex} (h : SumE x) : prt x = tkS sOpen :: exT' x ++ [tkS sClose] := by unfold prt partT; rw [if_pos (show (x.kind, exT' x).1 = 6 ∨ (x.kind, exT' x).1 = 7 from h)]
theorem exT_sum6 (a y : Ex) : exT' (.mk 6 [] 0 0 [a, y]) = exT' a ++ tkS sPlus :: prt y := by rw [exT'_eq]; rfl
theorem exT_sum7 (a y : Ex) : exT' (.mk 7 [] 0 0 [a, y]) = exT' a ++ tkS sMinus :: prt y := by rw [exT'_eq]; rfl
theorem exT_scale (n d : Int) (y : Ex) : exT' (.mk 8 [] n d [y]) = fracT n d ++ tkS sStar :: prt y := by rw [exT'_eq]; rfl
theorem exT_pair9 (a b : Ex) : exT' (.mk 9 [] 0 0 [a, b]) = tkW wLeast :: tkS sOpen :: exT' a ++ tkS sComma :: exT' b ++ [tkS sClose] := by rw [exT'_eq]; rfl
theorem exT_pair10 (a b : Ex) : exT' (.mk 10 [] 0 0 [a, b]) = tkW wGreatest :: tkS sOpen :: exT' a ++ tkS sComma :: exT' b ++ [tkS sClose] := by rw [exT'_eq]; rfl
theorem exT_if (a b c d : Ex) : exT' (.mk 11 [] 0 0 [a, b, c, d]) = tkW wIf :: exT' a ++ tkW wUpto :: exT' b ++ tkW wThen :: exT' c ++ tkW wElse :: exT' d ++ [tkW wEnd] := by rw [exT'_eq]; rfl
theorem GOk.run {n : Nat} {x : Ex} (h : GOk n x) : ∀ z, NoSl z → exprN n (exT' x ++ z) = runP addT (addStep (termN n)) x z := by
 induction h with
 | @term x h ht =>
   intro z hz
   have := ht z hz
   rw [prt_no h] at this
   unfold exprN exprOf
   rw [Zal this]
 | @sum k a y h _ ht ih =>
   intro z hz
   rcases h with rfl | rfl
   · rw [exT_sum6, List.append_assoc, List.cons_append, ih _ ⟨by rw [isT_S]; decide, by rw [isT_S]; decide⟩, Zde rfl (less_addStep (lw_termT n)), if_pos (by unfold addT; rw [isT_S]; rfl)]
     have : addStep (termN n) a (tkS sPlus :: (prt y ++ z)) = .ok (.mk 6 [] 0 0 [a, y], z) := by
       unfold addStep
       rw [if_pos (by rw [isT_S]; decide), Zal (want_S _ _), Zal (ht z hz)]
       rfl
     rw [Zal this]
   · rw [exT_sum7, List.append_assoc, List.cons_append, ih _ ⟨by rw [isT_S]; decide, by rw [isT_S]; decide⟩, Zde rfl (less_addStep (lw_termT n)), if_pos (by unfold addT; rw [isT_S, isT_S]; decide)]
     have : addStep (termN n) a (tkS sMinus :: (prt y ++ z)) = .ok (.mk 7 [] 0 0 [a, y], z) := by
       unfold addStep
       rw [if_neg (by rw [isT_S]; decide), Zal (want_S _ _), Zal (ht z hz)]
       rfl
     rw [Zal this]
theorem GOk.ok {n : Nat} {x : Ex} (h : GOk n x) {z : List TokD} (hz : Inert z) : exprN n (exT' x ++ z) = .ok (x, z) := by
 rw [h.run z hz.sl, Zde rfl (less_addStep (lw_termT n)), if_neg (by rw [inert_add z hz]; decide)]; rfl
theorem inert_S {w : List UInt8} (z : List TokD) (h : w ≠ sPlus ∧ w ≠ sMinus ∧ w ≠ sSlash ∧ w ≠ sStar) : Inert (tkS w :: z) := by
 unfold Inert; simp only [isT_S]; simp [h.1, h.2.1, h.2.2.1, h.2.2.2]
theorem inert_W {w : List UInt8} (z : List TokD) (h : w ≠ sPlus ∧ w ≠ sMinus ∧ w ≠ sSlash ∧ w ≠ sStar) : Inert (tkW w :: z) := by
 unfold Inert; simp only [isT_W]; simp [h.1, h.2.1, h.2.2.1, h.2.2.2]
def Va (l : List TokD) : Prop := ∀ t ∈ l, validB t = true
theorem Zcx : Va [] := fun _ h => by cases h
theorem Zbk {t : TokD} {l : List TokD} (h : validB t = true) (k : Va l) : Va (t :: l) := fun u hu => by
 rcases List.mem_cons.1 hu with rfl | hu
 · exact h
 · exact k u hu
theorem Zd3 {l m : List TokD} (h : Va l) (k : Va m) : Va (l ++ m) := fun u hu => (List.mem_append.1 hu).elim (h u) (k u)
theorem va_prt {x : Ex} (h : Va (exT' x)) : Va (prt x) := by
 by_cases hs : SumE x
 · rw [prt_sum hs]; exact Zd3 (Zbk (by decide) h) (Zbk (by decide) Zcx)
 · rw [prt_no hs]; exact h
structure PT (n : Nat) (x : Ex) (k : Nat) : Prop where
 t : TOk n x
 g : GOk n x
 v : Va (exT' x)
 l : (prt x).length ≤ k
structure PE (n : Nat) (x : Ex) (k : Nat) : Prop where
 g : GOk n x
 v : Va (exT' x)
 l : (exT' x).length ≤ k
theorem len_prt (x : Ex) : (exT' x).length ≤ (prt x).length := by
 by_cases hs : SumE x
 · rw [prt_sum hs]; simp only [List.length_cons, List.length_append, List.length_nil]; omega
 · rw [prt_no hs]; exact Nat.le_refl _
theorem PT.mk' {n : Nat} {x : Ex} {k : Nat} (hs : ¬ SumE x) (v : Va (exT' x)) (l : (exT' x).length ≤ k) (t : ∀ z, NoSl z → termN n (exT' x ++ z) = .ok (x, z)) : PT n x k :=
 have ht : TOk n x := fun z hz => by rw [prt_no hs]; exact t z hz
 ⟨ht, .term hs ht, v, by rw [prt_no hs]; exact l⟩
theorem yl_exprN {n : Nat} (h : Yl (termN n) (PT n)) : Yl (exprN n) (PE n) := by
 refine Zbo h fun x k hx => ?_
 refine yl_mono (yl_run (I := PE n) (fun a k ha => ?_) x k ⟨hx.g, hx.v, Nat.le_trans (len_prt x) hx.l⟩) fun _ _ h => h
 refine Zdu (Zbo (Zcm _) fun _ k1 e1 => Zbo h fun y k2 hy => Zd2 ?_) (Zbo (Zcm _) fun _ k1 e1 => Zbo h fun y k2 hy => Zd2 ?_)
 · subst e1
   refine ⟨.sum (.inl rfl) ha.g hy.t, ?_, ?_⟩
   · rw [exT_sum6]; exact Zd3 ha.v (Zbk (by decide) (va_prt hy.v))
   · rw [exT_sum6, List.length_append, List.length_cons]; have := ha.l; have := hy.l; omega
 · subst e1
   refine ⟨.sum (.inr rfl) ha.g hy.t, ?_, ?_⟩
   · rw [exT_sum7]; exact Zd3 ha.v (Zbk (by decide) (va_prt hy.v))
   · rw [exT_sum7, List.length_append, List.length_cons]; have := ha.l; have := hy.l; omega
theorem frac_T {n d : Int} (hd : d ≠ 0) {z : List TokD} (hz : isT sSlash z = false) : fracP (fracT n d ++ z) = .ok ((n, d), z) := by
 unfold fracT fracP
 by_cases h1 : d = 1
 · subst h1
   rw [if_pos rfl, List.cons_append, List.nil_append, Zal (num_N n z), if_neg (by rw [hz]; decide)]; rfl
 · rw [if_neg h1]
   simp only [List.cons_append, List.nil_append]
   rw [Zal (num_N n _), if_pos (by rw [isT_S]; decide), Zal (want_S _ _), if_neg (by simp [zeroHere, tkN, hd]), Zal (num_N d z)]; rfl
theorem yl_frac : Yl fracP fun q k => q.2 ≠ 0 ∧ Va (fracT q.1 q.2) ∧ (fracT q.1 q.2).length ≤ k := by
 refine Zbo yl_num fun n k hn => ?_
 obtain ⟨rfl, hv⟩ := hn
 refine Zdu (Zbo (Zcm _) fun _ k1 e1 => ?_) (Zd2 ⟨show (1 : Int) ≠ 0 by decide, Zbk hv Zcx, Nat.le_refl _⟩)
 refine ⟨fun {ts x r} hvt h => ?_⟩
 cases hz : zeroHere ts with
 | true => rw [hz] at h; cases h
 | false =>
   rw [hz] at h
   obtain ⟨d, u, h1, h2⟩ := Zd1 (f := numP) (g := fun d => ret (n, d)) h
   obtain ⟨t, rfl, k1', rfl⟩ := num_ok h1
   have hvd := (yl_num.into hvt h1)
   obtain ⟨c, _, _, hvd⟩ := hvd
   injection h2 with h2; injection h2 with h2 h3; subst h2 h3
   refine ⟨[t], rfl, ?_, ?_, ?_⟩
   · simp only [zeroHere, k1', decide_true, Bool.true_and, decide_eq_false_iff_not] at hz
     exact hz
   · unfold fracT
     split
     · exact Zbk hv Zcx
     · exact Zbk hv (Zbk (by decide) (Zbk hvd Zcx))
   · subst e1
     unfold fracT
     split <;> simp
theorem term_notNum {ok : Bool} {tm ex : List TokD → Res Ex} {ts : List TokD} (h : isNum ts = false) : termB ok tm ex ts = factorB ok ex ts := by unfold termB; rw [h]; rfl
theorem num_W (w : List UInt8) (z : List TokD) : isNum (tkW w :: z) = false := by simp [isNum, tkW]
theorem num_S (w : List UInt8) (z : List TokD) : isNum (tkS w :: z) = false := by simp [isNum, tkS]
theorem nm_W (w : List UInt8) (z : List TokD) : isName (tkW w :: z) = !reservedB w := by simp [isName, tkW]
theorem nm_S (w : List UInt8) (z : List TokD) : isName (tkS w :: z) = false := by simp [isName, tkS]
theorem Zd5 {v w : List UInt8} (h : w ≠ v) (z : List TokD) : ¬ isT v (tkW w :: z) = true := by rw [isT_W]; simp [h]
theorem isT_neS {v w : List UInt8} (h : w ≠ v) (z : List TokD) : ¬ isT v (tkS w :: z) = true := by rw [isT_S]; simp [h]
theorem Zdm (w : List UInt8) (z : List TokD) : isT w (tkW w :: z) = true := by rw [isT_W]; simp
theorem isT_eqS (w : List UInt8) (z : List TokD) : isT w (tkS w :: z) = true := by rw [isT_S]; simp
theorem nm_res {w : List UInt8} (h : reservedB w = true) (z : List TokD) : ¬ isName (tkW w :: z) = true := by rw [nm_W, h]; decide
section
variable {ok : Bool} {ex : List TokD → Res Ex}
theorem fac_name {s : List UInt8} (h : reservedB s = false) (z : List TokD) : factorB ok ex (tkW s :: z) = .ok (.mk 2 s 0 0 [], z) := by
 unfold factorB; rw [if_pos (by rw [nm_W, h]; rfl), Zal (name_W h z)]; rfl
theorem fac_bonus (z : List TokD) : factorB ok ex (tkW wBonus :: z) = .ok (.mk 3 [] 0 0 [], z) := by
 unfold factorB; rw [if_neg (nm_res (by decide) _), if_pos (Zdm _ _), Zal (Zdk _ z)]; rfl
theorem fac_malus (z : List TokD) : factorB ok ex (tkW wMalus :: z) = .ok (.mk 4 [] 0 0 [], z) := by
 unfold factorB; rw [if_neg (nm_res (by decide) _), if_neg (Zd5 (by decide) _), if_pos (Zdm _ _), Zal (Zdk _ z)]; rfl
theorem fac_round {s : List UInt8} (h : reservedB s = false) (z : List TokD) : factorB ok ex (tkW wRound :: tkW s :: z) = .ok (.mk 5 s 0 0 [], z) := by
 unfold factorB; rw [if_neg (nm_res (by decide) _), if_neg (Zd5 (by decide) _), if_neg (Zd5 (by decide) _), if_pos (Zdm _ _), Zal (named_W h z)]; rfl
theorem fac_least (z : List TokD) : factorB true ex (tkW wLeast :: z) = pairP ex 9 z := by
 unfold factorB; rw [if_neg (nm_res (by decide) _), if_neg (Zd5 (by decide) _), if_neg (Zd5 (by decide) _), if_neg (Zd5 (by decide) _), if_pos (Zdm _ _)]
 unfold gate; rw [if_pos rfl, Zal (Zdk _ z)]
theorem fac_greatest (z : List TokD) : factorB true ex (tkW wGreatest :: z) = pairP ex 10 z := by
 unfold factorB; rw [if_neg (nm_res (by decide) _), if_neg (Zd5 (by decide) _), if_neg (Zd5 (by decide) _), if_neg (Zd5 (by decide) _), if_neg (Zd5 (by decide) _), if_pos (Zdm _ _)]
 unfold gate; rw [if_pos rfl, Zal (Zdk _ z)]
theorem fac_if (z : List TokD) : factorB true ex (tkW wIf :: z) = (bnd ex fun a => bnd (want wUpto) fun _ => bnd ex fun b => bnd (want wThen) fun _ => bnd ex fun c => bnd (want wElse) fun _ => bnd ex fun d => bnd (want wEnd) fun _ => ret (.mk 11 [] 0 0 [a, b, c, d])) z := by
 unfold factorB; rw [if_neg (nm_res (by decide) _), if_neg (Zd5 (by decide) _), if_neg (Zd5 (by decide) _), if_neg (Zd5 (by decide) _), if_neg (Zd5 (by decide) _), if_neg (Zd5 (by decide) _), if_pos (Zdm _ _)]
 unfold gate; rw [if_pos rfl, Zal (Zdk _ z)]
theorem fac_open (z : List TokD) : factorB true ex (tkS sOpen :: z) = (bnd ex fun x => bnd (want sClose) fun _ => ret x) z := by
 unfold factorB; rw [if_neg (by rw [nm_S]; decide), if_neg (isT_neS (by decide) _), if_neg (isT_neS (by decide) _), if_neg (isT_neS (by decide) _), if_neg (isT_neS (by decide) _), if_neg (isT_neS (by decide) _), if_neg (isT_neS (by decide) _), if_pos (isT_eqS _ _)]
 unfold gate; rw [if_pos rfl, Zal (want_S _ z)]
theorem pair_T {n : Nat} {a b : Ex} (ha : GOk n a) (hb : GOk n b) (k : Int) (z : List TokD) : pairP (exprN n) k (tkS sOpen :: (exT' a ++ (tkS sComma :: (exT' b ++ (tkS sClose :: z))))) = .ok (.mk k [] 0 0 [a, b], z) := by
 unfold pairP
 rw [Zal (want_S _ _), Zal (ha.ok (inert_S _ (by decide))), Zal (want_S _ _), Zal (hb.ok (inert_S _ (by decide))), Zal (want_S _ _)]; rfl
end
theorem yl_factor {n : Nat} {ok : Bool} {tm ex : List TokD → Res Ex} (hn : termN n = termB ok tm ex) (h : ok = true → ∃ m, n = m + 1 ∧ ex = exprN m ∧ Yl (exprN m) (PE m)) : Yl (factorB ok ex) (PT n) := by
 refine Zdu (Zbo yl_name fun s k hs => Zd2 ?_) ?_
 · obtain ⟨rfl, hv, hr⟩ := hs
   have e : exT' (.mk 2 s 0 0 []) = [tkW s] := by rw [exT'_eq]; rfl
   refine .mk' (by unfold SumE; exact (by decide : ¬ ((2 : Int) = 6 ∨ (2 : Int) = 7))) (by rw [e]; exact Zbk hv Zcx) (by rw [e]; exact Nat.le_refl _) fun z _ => ?_
   rw [e, hn]; exact (term_notNum (num_W _ _)).trans (fac_name hr z)
 refine Zdu (Zbo (Zcm _) fun _ k hs => Zd2 ?_) ?_
 · subst hs
   have e : exT' (.mk 3 [] 0 0 []) = [tkW wBonus] := by rw [exT'_eq]; rfl
   refine .mk' (by unfold SumE; exact (by decide : ¬ ((3 : Int) = 6 ∨ (3 : Int) = 7))) (by rw [e]; exact Zbk (by decide) Zcx) (by rw [e]; exact Nat.le_refl _) fun z _ => ?_
   rw [e, hn]; exact (term_notNum (num_W _ _)).trans (fac_bonus z)
 refine Zdu (Zbo (Zcm _) fun _ k hs => Zd2 ?_) ?_
 · subst hs
   have e : exT' (.mk 4 [] 0 0 []) = [tkW wMalus] := by rw [exT'_eq]; rfl
   refine .mk' (by unfold SumE; exact (by decide : ¬ ((4 : Int) = 6 ∨ (4 : Int) = 7))) (by rw [e]; exact Zbk (by decide) Zcx) (by rw [e]; exact Nat.le_refl _) fun z _ => ?_
   rw [e, hn]; exact (term_notNum (num_W _ _)).trans (fac_malus z)
 refine Zdu (Zbo (P := fun s k => k = 2 ∧ NmOk s) (Zbo (Zcm _) fun _ k hk => yl_mono yl_name fun s m hs => ⟨by omega, hs.2⟩) fun s k hs => Zd2 ?_) ?_
 · obtain ⟨rfl, hv, hr⟩ := hs
   have e : exT' (.mk 5 s 0 0 []) = [tkW wRound, tkW s] := by rw [exT'_eq]; rfl
   refine .mk' (by unfold SumE; exact (by decide : ¬ ((5 : Int) = 6 ∨ (5 : Int) = 7))) (by rw [e]; exact Zbk (by decide) (Zbk hv Zcx)) (by rw [e]; exact Nat.le_refl _) fun z _ => ?_
   rw [e, hn]; exact (term_notNum (num_W _ _)).trans (fac_round hr z)
 refine Zdu (yl_gate fun ho => ?_) ?_
 · obtain ⟨m, rfl, rfl, hy⟩ := h ho
   subst ho
   refine Zbo (Zcm _) fun _ k1 e1 => Zbo (Zcm _) fun _ k2 e2 => Zbo hy fun a k3 ha => Zbo (Zcm _) fun _ k4 e4 => Zbo hy fun b k5 hb => Zbo (Zcm _) fun _ k6 e6 => Zd2 ?_
   refine .mk' (by unfold SumE; exact (by decide : ¬ ((9 : Int) = 6 ∨ (9 : Int) = 7))) ?_ ?_ fun z _ => ?_
   · rw [exT_pair9]; exact Zd3 (Zd3 (Zbk (by decide) (Zbk (by decide) ha.v)) (Zbk (by decide) hb.v)) (Zbk (by decide) Zcx)
   · rw [exT_pair9]; have := ha.l; have := hb.l; simp only [List.length_append, List.length_cons, List.length_nil]; omega
   · rw [exT_pair9, hn]
     simp only [List.append_assoc, List.cons_append, List.nil_append]
     rw [term_notNum (num_W _ _), fac_least, pair_T ha.g hb.g]
 refine Zdu (yl_gate fun ho => ?_) ?_
 · obtain ⟨m, rfl, rfl, hy⟩ := h ho
   subst ho
   refine Zbo (Zcm _) fun _ k1 e1 => Zbo (Zcm _) fun _ k2 e2 => Zbo hy fun a k3 ha => Zbo (Zcm _) fun _ k4 e4 => Zbo hy fun b k5 hb => Zbo (Zcm _) fun _ k6 e6 => Zd2 ?_
   refine .mk' (by unfold SumE; exact (by decide : ¬ ((10 : Int) = 6 ∨ (10 : Int) = 7))) ?_ ?_ fun z _ => ?_
   · rw [exT_pair10]; exact Zd3 (Zd3 (Zbk (by decide) (Zbk (by decide) ha.v)) (Zbk (by decide) hb.v)) (Zbk (by decide) Zcx)
   · rw [exT_pair10]; have := ha.l; have := hb.l; simp only [List.length_append, List.length_cons, List.length_nil]; omega
   · rw [exT_pair10, hn]
     simp only [List.append_assoc, List.cons_append, List.nil_append]
     rw [term_notNum (num_W _ _), fac_greatest, pair_T ha.g hb.g]
 refine Zdu (yl_gate fun ho => ?_) ?_
 · obtain ⟨m, rfl, rfl, hy⟩ := h ho
   subst ho
   refine Zbo (Zcm _) fun _ k1 e1 => Zbo hy fun a k2 ha => Zbo (Zcm _) fun _ k3 e3 => Zbo hy fun b k4 hb => Zbo (Zcm _) fun _ k5 e5 => Zbo hy fun c k6 hc => Zbo (Zcm _) fun _ k7 e7 => Zbo hy fun d k8 hd => Zbo (Zcm _) fun _ k9 e9 => Zd2 ?_
   refine .mk' (by unfold SumE; exact (by decide : ¬ ((11 : Int) = 6 ∨ (11 : Int) = 7))) ?_ ?_ fun z _ => ?_
   · rw [exT_if]; exact Zd3 (Zd3 (Zd3 (Zd3 (Zbk (by decide) ha.v) (Zbk (by decide) hb.v)) (Zbk (by decide) hc.v)) (Zbk (by decide) hd.v)) (Zbk (by decide) Zcx)
   · rw [exT_if]; have := ha.l; have := hb.l; have := hc.l; have := hd.l; simp only [List.length_append, List.length_cons, List.length_nil]; omega
   · rw [exT_if, hn]
     simp only [List.append_assoc, List.cons_append, List.nil_append]
     rw [term_notNum (num_W _ _), fac_if, Zal (ha.g.ok (inert_W _ (by decide))), Zal (Zdk _ _), Zal (hb.g.ok (inert_W _ (by decide))), Zal (Zdk _ _), Zal (hc.g.ok (inert_W _ (by decide))), Zal (Zdk _ _), Zal (hd.g.ok (inert_W _ (by decide))), Zal (Zdk _ _)]
     rfl
 refine Zdu (yl_gate fun ho => ?_) yl_fail
 · obtain ⟨m, rfl, rfl, hy⟩ := h ho
   subst ho
   refine Zbo (Zcm _) fun _ k1 e1 => Zbo hy fun x k2 hx => Zbo (Zcm _) fun _ k3 e3 => Zd2 ?_
   have hl := hx.l
   by_cases hs : SumE x
   · refine ⟨fun z _ => ?_, hx.g.up, hx.v, ?_⟩
     · rw [prt_sum hs, hn]
       simp only [List.append_assoc, List.cons_append, List.nil_append]
       rw [term_notNum (num_S _ _), fac_open, Zal (hx.g.ok (inert_S _ (by decide))), Zal (want_S _ _)]
       rfl
     · rw [prt_sum hs]; simp only [List.length_append, List.length_cons, List.length_nil]; omega
   · have ht : TOk m x := by
       cases hx.g with
       | term _ ht => exact ht
       | sum h => exact absurd h hs
     exact ⟨ht.up, hx.g.up, hx.v, by rw [prt_no hs]; omega⟩
theorem yl_termB {n : Nat} {ok : Bool} {tm ex : List TokD → Res Ex} (hn : termN n = termB ok tm ex) (h : ok = true → ∃ m, n = m + 1 ∧ tm = termN m ∧ ex = exprN m ∧ Yl (termN m) (PT m)) : Yl (termN n) (PT n) := by
 have hf : Yl (factorB ok ex) (PT n) := yl_factor hn fun ho => by
   obtain ⟨m, h1, _, h3, h4⟩ := h ho
   exact ⟨m, h1, h3, yl_exprN h4⟩
 rw [hn]
 refine Zdu (Zbo yl_frac fun q k hq => Zdu (yl_gate fun ho => ?_) (Zd2 ?_)) hf
 · obtain ⟨m, rfl, rfl, rfl, hy⟩ := h ho
   subst ho
   refine Zbo (Zcm _) fun _ k1 e1 => Zbo hy fun x k2 hx => Zd2 ?_
   refine .mk' (by unfold SumE; exact (by decide : ¬ ((8 : Int) = 6 ∨ (8 : Int) = 7))) ?_ ?_ fun z hz => ?_
   · rw [exT_scale]; exact Zd3 hq.2.1 (Zbk (by decide) (va_prt hx.v))
   · rw [exT_scale]; have := hq.2.2; have := hx.l; simp only [List.length_append, List.length_cons]; omega
   · have hnm : isNum (fracT q.1 q.2 ++ tkS sStar :: (prt x ++ z)) = true := by unfold fracT; split <;> simp [isNum, tkN]
     rw [exT_scale, hn, List.append_assoc, List.cons_append]
     unfold termB
     rw [if_pos hnm, Zal (frac_T hq.1 (by rw [isT_S]; decide)), if_pos (isT_eqS _ _)]
     unfold gate
     rw [if_pos rfl, Zal (want_S _ _), Zal (hx.t z hz)]
     rfl
 · have e : exT' (.mk 1 [] q.1 q.2 []) = fracT q.1 q.2 := by rw [exT'_eq]; rfl
   refine .mk' (by unfold SumE; exact (by decide : ¬ ((1 : Int) = 6 ∨ (1 : Int) = 7))) (by rw [e]; exact hq.2.1) (by rw [e]; exact hq.2.2) fun z hz => ?_
   have hnm : isNum (fracT q.1 q.2 ++ z) = true := by unfold fracT; split <;> simp [isNum, tkN]
   rw [e, hn]
   unfold termB
   rw [if_pos hnm, Zal (frac_T hq.1 hz.1), if_neg (by rw [hz.2]; decide)]
   rfl
theorem yl_termN : ∀ n, Yl (termN n) (PT n)
 | 0 => yl_termB rfl fun h => by cases h
 | n + 1 => yl_termB rfl fun _ => ⟨n, rfl, rfl, rfl, yl_termN n⟩
theorem yl_expr (n : Nat) : Yl (exprN n) (PE n) := yl_exprN (yl_termN n)
end Go.Sx
namespace Go.Sx
open Go.Lx Go.Fr
variable {α β σ : Type}
structure PI (item : List TokD → Res α) (tk : α → List TokD) (x : α) (k : Nat) : Prop where
 t : ∀ l z, someStep item l (tk x ++ z) = .ok (l ++ [x], z)
 v : Va (tk x)
 l : (tk x).length ≤ k + 1
structure PL (item : List TokD → Res α) (tk : α → List TokD) (xs : List α) (k : Nat) : Prop where
 t : ∀ x ∈ xs, ∀ l z, someStep item l (tk x ++ z) = .ok (l ++ [x], z)
 v : Va (xs.flatMap tk)
 l : (xs.flatMap tk).length ≤ k
theorem yl_some {item : List TokD → Res α} {tk : α → List TokD} (w : List UInt8) (h : Yl item (PI item tk)) : Yl (someP w item) (PL item tk) := by
 refine yl_mono (yl_run (I := PL item tk) (fun l k hl => ?_) [] 0 ⟨fun _ h => by (cases h), Zcx, Nat.le_refl _⟩) fun x k h => by rwa [Nat.zero_add] at h
 refine Zbo h fun x k1 hx => Zbo (Zcm _) fun _ k2 e2 => Zd2 ?_
 subst e2
 refine ⟨fun y hy => ?_, ?_, ?_⟩
 · rcases List.mem_append.1 hy with hy | hy
   · exact hl.t y hy
   · rw [List.mem_singleton.1 hy]; exact hx.t
 · rw [List.flatMap_append, List.flatMap_cons, List.flatMap_nil, List.append_nil]; exact Zd3 hl.v hx.v
 · rw [List.flatMap_append, List.flatMap_cons, List.flatMap_nil, List.append_nil, List.length_append]; have := hl.l; have := hx.l; omega
theorem some_T {w : List UInt8} {item : List TokD → Res α} {tk : α → List TokD} (hl : Less item) (hw : ∀ x z, isT w (tk x ++ z) = true) {z : List TokD} (hz : isT w z = false) : ∀ (xs l : List α), (∀ x ∈ xs, ∀ l z, someStep item l (tk x ++ z) = .ok (l ++ [x], z)) → runP (isT w) (someStep item) l (xs.flatMap tk ++ z) = .ok (l ++ xs, z)
 | [], l, _ => by rw [List.flatMap_nil, List.nil_append, Zde rfl (less_someStep hl), if_neg (by rw [hz]; decide), List.append_nil]; rfl
 | x :: xs, l, h => by
   rw [List.flatMap_cons, List.append_assoc, Zde rfl (less_someStep hl), if_pos (hw _ _), Zal (h x (by simp) l _), some_T hl hw hz xs (l ++ [x]) fun y hy => h y (List.mem_cons_of_mem _ hy), List.append_assoc]; rfl
theorem step_T {item : List TokD → Res α} {x : α} {bd z : List TokD} (h : item (bd ++ tkS sSemi :: z) = .ok (x, tkS sSemi :: z)) (l : List α) : someStep item l (bd ++ [tkS sSemi] ++ z) = .ok (l ++ [x], z) := by
 rw [List.append_assoc, List.cons_append, List.nil_append]
 unfold someStep
 rw [Zal h, Zal (want_S _ _)]; rfl
def cT (tk : α → List TokD) : List α → List TokD
 | [] => []
 | x :: l => tk x ++ l.flatMap fun y => tkS sComma :: tk y
theorem comma_cT (l : List Int) : commaT l = cT (fun n => [tkN n]) l := by cases l <;> rfl
theorem keys_cT (l : List KeyD) : keysT l = cT keyT l := by cases l <;> rfl
theorem cT_snoc (tk : α → List TokD) {l : List α} (h : l ≠ []) (y : α) : cT tk (l ++ [y]) = cT tk l ++ tkS sComma :: tk y := by
 cases l with
 | nil => exact absurd rfl h
 | cons x l =>
   show tk x ++ (l ++ [y]).flatMap _ = tk x ++ l.flatMap _ ++ _
   rw [List.flatMap_append, List.append_assoc]
   simp
structure PC (item : List TokD → Res α) (tk : α → List TokD) (xs : List α) (k : Nat) : Prop where
 ne : xs ≠ []
 t : ∀ x ∈ xs, ∀ z, item (tk x ++ z) = .ok (x, z)
 v : Va (cT tk xs)
 l : (cT tk xs).length ≤ k
structure P1 (item : List TokD → Res α) (tk : α → List TokD) (x : α) (k : Nat) : Prop where
 t : ∀ z, item (tk x ++ z) = .ok (x, z)
 v : Va (tk x)
 l : (tk x).length ≤ k
theorem yl_list {item : List TokD → Res α} {tk : α → List TokD} (h : Yl item (P1 item tk)) : Yl (listP item) (PC item tk) := by
 refine Zbo h fun x k hx => ?_
 have hc : cT tk [x] = tk x := by show tk x ++ [] = _; rw [List.append_nil]
 refine yl_run (I := PC item tk) (fun l k hl => ?_) [x] k ⟨by simp, fun y hy => by rw [List.mem_singleton.1 hy]; exact hx.t, by rw [hc]; exact hx.v, by rw [hc]; exact hx.l⟩
 refine Zbo (Zcm _) fun _ k1 e1 => Zbo h fun y k2 hy => Zd2 ?_
 subst e1
 refine ⟨by simp, fun u hu => ?_, ?_, ?_⟩
 · rcases List.mem_append.1 hu with hu | hu
   · exact hl.t u hu
   · rw [List.mem_singleton.1 hu]; exact hy.t
 · rw [cT_snoc tk hl.ne]; exact Zd3 hl.v (Zbk (by decide) hy.v)
 · rw [cT_snoc tk hl.ne, List.length_append, List.length_cons]; have := hl.l; have := hy.l; omega
theorem comma_T {item : List TokD → Res α} {tk : α → List TokD} (hi : Lw TT item) {z : List TokD} (hz : isT sComma z = false) : ∀ (xs l : List α), (∀ x ∈ xs, ∀ z, item (tk x ++ z) = .ok (x, z)) → runP (isT sComma) (commaStep item) l (xs.flatMap (fun y => tkS sComma :: tk y) ++ z) = .ok (l ++ xs, z)
 | [], l, _ => by rw [List.flatMap_nil, List.nil_append, Zde rfl (less_comma hi), if_neg (by rw [hz]; decide), List.append_nil]; rfl
 | x :: xs, l, h => by
   have e : commaStep item l (tkS sComma :: (tk x ++ (xs.flatMap (fun y => tkS sComma :: tk y) ++ z))) = .ok (l ++ [x], xs.flatMap (fun y => tkS sComma :: tk y) ++ z) := by
     unfold commaStep
     rw [Zal (want_S _ _), Zal (h x (by simp) _)]; rfl
   rw [List.flatMap_cons, List.append_assoc, List.cons_append, Zde rfl (less_comma hi), if_pos (isT_eqS _ _), Zal e, comma_T hi hz xs (l ++ [x]) fun y hy => h y (List.mem_cons_of_mem _ hy), List.append_assoc]; rfl
theorem list_T {item : List TokD → Res α} {tk : α → List TokD} (hi : Lw TT item) {z : List TokD} (hz : isT sComma z = false) {xs : List α} {k : Nat} (h : PC item tk xs k) : listP item (cT tk xs ++ z) = .ok (xs, z) := by
 cases xs with
 | nil => exact absurd rfl h.ne
 | cons x xs =>
   show listP item (tk x ++ xs.flatMap _ ++ z) = _
   rw [List.append_assoc]
   unfold listP
   rw [Zal (h.t x (by simp) _), comma_T hi hz xs [x] fun y hy => h.t y (List.mem_cons_of_mem _ hy)]; rfl
theorem flag_T {w : List UInt8} {z : List TokD} (hz : isT w z = false) (b : Bool) : flag w ((if b then [tkW w] else []) ++ z) = .ok (b, z) := by
 cases b
 · show flag w z = _
   unfold flag; rw [if_neg (by rw [hz]; decide)]; rfl
 · show flag w (tkW w :: z) = _
   unfold flag; rw [if_pos (Zdm _ _), Zal (Zdk _ _)]; rfl
theorem yl_named (w : List UInt8) : Yl (named w) fun s k => k = 2 ∧ NmOk s := Zbo (Zcm _) fun _ _ hk => yl_mono yl_name fun _ _ hs => ⟨by omega, hs.2⟩
theorem yl_valued (w : List UInt8) : Yl (valued w) fun n k => k = 2 ∧ validB (tkN n) = true := Zbo (Zcm _) fun _ _ hk => yl_mono yl_num fun _ _ hs => ⟨by omega, hs.2⟩
theorem yl_flag (w : List UInt8) : Yl (flag w) fun b k => k = if b then 1 else 0 := Zdu (Zbo (Zcm _) fun _ _ hk => Zd2 (by rw [hk]; rfl)) (Zd2 rfl)
theorem yl_how : Yl howP fun h k => (h = (1, 0) ∧ k = 1) ∨ (h.1 = 2 ∧ k = 3 ∧ validB (tkN h.2) = true) ∨ (h = (3, 0) ∧ k = 1) :=
 Zdu (Zbo (Zcm _) fun _ _ hk => Zd2 (.inl ⟨rfl, hk⟩)) (Zdu (Zbo (Zcm _) fun _ _ hk => Zbo (yl_valued _) fun _ _ hn => Zd2 (.inr (.inl ⟨rfl, by have := hn.1; omega, hn.2⟩))) (Zbo (Zcm _) fun _ _ hk => Zd2 (.inr (.inr ⟨rfl, hk⟩))))
theorem how_T {c : Crit} (h : (c.how = 1 ∧ c.trim = 0) ∨ c.how = 2 ∨ (c.how = 3 ∧ c.trim = 0)) (z : List TokD) : howP (howT c ++ z) = .ok ((c.how, c.trim), z) := by
 rcases h with ⟨h1, h2⟩ | h1 | ⟨h1, h2⟩
 · rw [show howT c = [tkW wSum] by unfold howT; rw [if_pos h1]]
   rw [h1, h2, List.cons_append, List.nil_append]; unfold howP; rw [if_pos (Zdm _ _), Zal (Zdk _ _)]; rfl
 · rw [show howT c = [tkW wMean, tkW wTrim, tkN c.trim] by unfold howT; rw [h1]; rfl]
   simp only [List.cons_append, List.nil_append]
   rw [h1]; unfold howP; rw [if_neg (Zd5 (by decide) _), if_pos (Zdm _ _), Zal (Zdk _ _), Zal (valued_N _ _ _)]; rfl
 · rw [show howT c = [tkW wMedian] by unfold howT; rw [h1]; rfl]
   rw [h1, h2, List.cons_append, List.nil_append]; unfold howP; rw [if_neg (Zd5 (by decide) _), if_neg (Zd5 (by decide) _), Zal (Zdk _ _)]; rfl
theorem yl_crit : Yl critB (PI critB critT) := by
 refine Zbo (yl_named _) fun nm _ hnm => Zbo (yl_valued _) fun lo _ hlo => Zbo (yl_valued _) fun hi _ hhi => Zbo (yl_valued _) fun st _ hst => Zbo yl_how fun h _ hh => Zbo (yl_flag _) fun rv _ hrv => Zd2 ?_
 obtain ⟨rfl, hv, hr⟩ := hnm
 obtain ⟨rfl, hlo⟩ := hlo
 obtain ⟨rfl, hhi⟩ := hhi
 obtain ⟨rfl, hst⟩ := hst
 obtain ⟨h1, h2⟩ := h
 have hc : (h1 = 1 ∧ h2 = 0) ∨ h1 = 2 ∨ (h1 = 3 ∧ h2 = 0) := by
   rcases hh with ⟨e, -⟩ | ⟨e, -⟩ | ⟨e, -⟩
   · injection e with e1 e2; exact .inl ⟨e1, e2⟩
   · exact .inr (.inl e)
   · injection e with e1 e2; exact .inr (.inr ⟨e1, e2⟩)
 refine ⟨fun l z => ?_, ?_, ?_⟩
 · unfold critT
   refine step_T ?_ l
   simp only [List.cons_append, List.nil_append, List.append_assoc]
   unfold critB
   rw [Zal (named_W hr _), Zal (valued_N _ _ _), Zal (valued_N _ _ _), Zal (valued_N _ _ _), Zal (how_T hc _), Zal (flag_T (by rw [isT_S]; decide) _)]
   rfl
 · unfold critT
   refine Zd3 (Zd3 (Zd3 ?_ ?_) ?_) (Zbk (by decide) Zcx)
   · exact Zbk (by decide) (Zbk hv (Zbk (by decide) (Zbk hlo (Zbk (by decide) (Zbk hhi (Zbk (by decide) (Zbk hst Zcx)))))))
   · rcases hh with ⟨e, -⟩ | ⟨e, -, hn⟩ | ⟨e, -⟩
     · injection e with e1 e2; subst e1 e2; exact Zbk (by decide) Zcx
     · simp only at e hn; subst e; exact Zbk (by decide) (Zbk (by decide) (Zbk hn Zcx))
     · injection e with e1 e2; subst e1 e2; exact Zbk (by decide) Zcx
   · cases rv
     · exact Zcx
     · exact Zbk (by decide) Zcx
 · have hl : (howT ⟨nm, lo, hi, st, h1, h2, rv⟩).length = (if h1 = 2 then 3 else 1) := by
     rcases hc with ⟨rfl, rfl⟩ | rfl | ⟨rfl, rfl⟩ <;> rfl
   unfold critT
   simp only [List.length_append, hl, List.length_cons, List.length_nil]
   rcases hh with ⟨e, rfl⟩ | ⟨e, rfl, -⟩ | ⟨e, rfl⟩
   · injection e with e1 e2; subst e1 e2; subst hrv; cases rv <;> simp
   · simp only at e; subst e; subst hrv; cases rv <;> simp
   · injection e with e1 e2; subst e1 e2; subst hrv; cases rv <;> simp
theorem yl_item (w : List UInt8) (hw : validB (tkW w) = true) : Yl (itemB w) (PI (itemB w) (itemT w)) := by
 refine Zbo (yl_named _) fun nm _ hnm => Zbo (yl_valued _) fun v _ hv => Zbo (yl_valued _) fun m _ hm => Zd2 ?_
 obtain ⟨rfl, hn, hr⟩ := hnm
 obtain ⟨rfl, hv⟩ := hv
 obtain ⟨rfl, hm⟩ := hm
 refine ⟨fun l z => ?_, ?_, Nat.le_refl _⟩
 · show someStep (itemB w) l ([tkW w, tkW nm, tkW wValue, tkN v, tkW wMost, tkN m] ++ [tkS sSemi] ++ z) = _
   refine step_T ?_ l
   simp only [List.cons_append, List.nil_append]
   unfold itemB
   rw [Zal (named_W hr _), Zal (valued_N _ _ _), Zal (valued_N _ _ _)]
   rfl
 · exact Zbk hw (Zbk hn (Zbk (by decide) (Zbk hv (Zbk (by decide) (Zbk hm (Zbk (by decide) Zcx))))))
theorem yl_key : Yl keyP (P1 keyP keyT) := by
 have T : ∀ {k : KeyD} {u : List TokD} {n : Nat}, keyT k = u → (∀ z, keyP (u ++ z) = .ok (k, z)) → Va u → u.length ≤ n → P1 keyP keyT k n := fun e h1 h2 h3 => ⟨by rw [e]; exact h1, by rw [e]; exact h2, by rw [e]; exact h3⟩
 refine Zdu (Zbo (yl_named _) fun nm _ hn => Zd2 ?_) (Zdu (Zbo (yl_named _) fun nm _ hn => Zd2 ?_) (Zdu (Zbo (yl_named _) fun nm _ hn => Zd2 ?_) (Zdu (Zbo (Zcm _) fun _ _ hk => Zd2 ?_) (Zdu (Zbo (Zcm _) fun _ _ hk => Zd2 ?_) (Zbo (Zcm _) fun _ _ hk => Zd2 ?_)))))
 · obtain ⟨rfl, hv, hr⟩ := hn
   refine T (u := [tkW wTotal, tkW nm]) rfl (fun z => ?_) (Zbk (by decide) (Zbk hv Zcx)) (Nat.le_refl _)
   simp only [List.cons_append, List.nil_append]
   unfold keyP
   rw [if_pos (Zdm _ _), Zal (named_W hr _)]; rfl
 · obtain ⟨rfl, hv, hr⟩ := hn
   refine T (u := [tkW wScore, tkW nm]) rfl (fun z => ?_) (Zbk (by decide) (Zbk hv Zcx)) (Nat.le_refl _)
   simp only [List.cons_append, List.nil_append]
   unfold keyP
   rw [if_neg (Zd5 (by decide) _), if_pos (Zdm _ _), Zal (named_W hr _)]; rfl
 · obtain ⟨rfl, hv, hr⟩ := hn
   refine T (u := [tkW wRule, tkW nm]) rfl (fun z => ?_) (Zbk (by decide) (Zbk hv Zcx)) (Nat.le_refl _)
   simp only [List.cons_append, List.nil_append]
   unfold keyP
   rw [if_neg (Zd5 (by decide) _), if_neg (Zd5 (by decide) _), if_pos (Zdm _ _), Zal (named_W hr _)]; rfl
 · subst hk
   refine T (u := [tkW wHighest]) rfl (fun z => ?_) (Zbk (by decide) Zcx) (Nat.le_refl _)
   simp only [List.cons_append, List.nil_append]
   unfold keyP
   rw [if_neg (Zd5 (by decide) _), if_neg (Zd5 (by decide) _), if_neg (Zd5 (by decide) _), if_pos (Zdm _ _), Zal (Zdk _ _)]; rfl
 · subst hk
   refine T (u := [tkW wBonus]) rfl (fun z => ?_) (Zbk (by decide) Zcx) (Nat.le_refl _)
   simp only [List.cons_append, List.nil_append]
   unfold keyP
   rw [if_neg (Zd5 (by decide) _), if_neg (Zd5 (by decide) _), if_neg (Zd5 (by decide) _), if_neg (Zd5 (by decide) _), if_pos (Zdm _ _), Zal (Zdk _ _)]; rfl
 · subst hk
   refine T (u := [tkW wLot]) rfl (fun z => ?_) (Zbk (by decide) Zcx) (Nat.le_refl _)
   simp only [List.cons_append, List.nil_append]
   unfold keyP
   rw [if_neg (Zd5 (by decide) _), if_neg (Zd5 (by decide) _), if_neg (Zd5 (by decide) _), if_neg (Zd5 (by decide) _), if_neg (Zd5 (by decide) _), Zal (Zdk _ _)]; rfl
theorem lw_keyT : Lw TT keyP := lw_key (fun _ _ _ => trivial) fun _ _ _ _ _ => trivial
theorem lw_numT : Lw TT numP := lw_num fun _ _ => trivial
theorem yl_tie : Yl tieB (PI tieB tieT) := by
 refine Zbo (yl_named _) fun nm _ hnm => Zbo (yl_list yl_key) fun ks k hk => Zd2 ?_
 obtain ⟨rfl, hv, hr⟩ := hnm
 refine ⟨fun l z => ?_, ?_, ?_⟩
 · unfold tieT
   refine step_T ?_ l
   simp only [List.cons_append, List.nil_append, keys_cT]
   unfold tieB
   rw [Zal (named_W hr _), Zal (list_T lw_keyT (by rw [isT_S]; decide) hk)]; rfl
 · unfold tieT; rw [keys_cT]; exact Zd3 (Zd3 (Zbk (by decide) (Zbk hv Zcx)) hk.v) (Zbk (by decide) Zcx)
 · unfold tieT; rw [keys_cT]; have := hk.l; simp only [List.length_append, List.length_cons, List.length_nil]; omega
theorem yl_cut : Yl cutP fun c k => (c = 1 ∨ c = 2 ∨ c = 3) ∧ k = 1 := Zdu (Zbo (Zcm _) fun _ _ hk => Zd2 ⟨.inl rfl, hk⟩) (Zdu (Zbo (Zcm _) fun _ _ hk => Zd2 ⟨.inr (.inl rfl), hk⟩) (Zbo (Zcm _) fun _ _ hk => Zd2 ⟨.inr (.inr rfl), hk⟩))
theorem cut_T {c : Int} (h : c = 1 ∨ c = 2 ∨ c = 3) (z : List TokD) : cutP (cutT c ++ z) = .ok (c, z) := by
 rcases h with rfl | rfl | rfl
 · show cutP (tkW wOver :: z) = _
   unfold cutP; rw [if_pos (Zdm _ _), Zal (Zdk _ _)]; rfl
 · show cutP (tkW wUnder :: z) = _
   unfold cutP; rw [if_neg (Zd5 (by decide) _), if_pos (Zdm _ _), Zal (Zdk _ _)]; rfl
 · show cutP (tkW wLots :: z) = _
   unfold cutP; rw [if_neg (Zd5 (by decide) _), if_neg (Zd5 (by decide) _), Zal (Zdk _ _)]; rfl
theorem yl_score : Yl scoreP fun s k => (s = (true, .mk 0 [] 0 0 []) ∧ k = 1) ∨ (s.1 = false ∧ ∃ k', k = k' + 1 ∧ PE 16 s.2 k') :=
 Zdu (Zbo (Zcm _) fun _ _ hk => Zd2 (.inl ⟨rfl, hk⟩)) (Zbo (Zcm _) fun _ k hk => Zbo (yl_expr 16) fun x k2 hx => Zd2 (.inr ⟨rfl, k2, by omega, hx⟩))
abbrev scT (p : Bool) (x : Ex) : List TokD := if p then [tkW wPlaces] else tkW wScore :: exT' x
theorem score_T {p : Bool} {x : Ex} (h : (p, x) = (true, .mk 0 [] 0 0 []) ∨ (p = false ∧ GOk 16 x)) {z : List TokD} (hz : Inert z) : scoreP (scT p x ++ z) = .ok ((p, x), z) := by
 rcases h with e | ⟨rfl, h⟩
 · injection e with e1 e2; subst e1 e2
   show scoreP (tkW wPlaces :: z) = _
   unfold scoreP; rw [if_pos (Zdm _ _), Zal (Zdk _ _)]; rfl
 · show scoreP (tkW wScore :: (exT' x ++ z)) = _
   unfold scoreP; rw [if_neg (Zd5 (by decide) _), Zal (Zdk _ _), Zal (h.ok hz)]; rfl
theorem yl_tieRef : Yl tieRefP fun t k => (t.2 = 0 ∧ NmOk t.1 ∧ k = 2) ∨ (t = ([], -1) ∧ k = 0) := Zdu (Zbo (yl_named _) fun _ _ h => Zd2 (.inl ⟨rfl, h.2, h.1⟩)) (Zd2 (.inr ⟨rfl, rfl⟩))
abbrev trT (s : List UInt8) (n : Int) : List TokD := if n = 0 then [tkW wTie, tkW s] else []
theorem tieRef_T {s : List UInt8} {n : Int} (h : (n = 0 ∧ NmOk s) ∨ (s, n) = ([], -1)) {z : List TokD} (hz : isT wTie z = false) : tieRefP (trT s n ++ z) = .ok ((s, n), z) := by
 rcases h with ⟨rfl, h⟩ | e
 · show tieRefP (tkW wTie :: tkW s :: z) = _
   unfold tieRefP; rw [if_pos (Zdm _ _), Zal (named_W h.2 _)]; rfl
 · injection e with e1 e2; subst e1 e2
   show tieRefP z = _
   unfold tieRefP; rw [if_neg (by rw [hz]; decide)]; rfl
theorem trT_inert (s : List UInt8) (n : Int) (z : List TokD) : Inert (trT s n ++ tkS sSemi :: z) := by
 unfold trT
 split
 · exact inert_W _ (by decide)
 · exact inert_S _ (by decide)
theorem scT_free (p : Bool) (x : Ex) (z : List TokD) : isT wFree (scT p x ++ z) = false := by
 unfold scT
 split
 · rw [List.cons_append, isT_W]; decide
 · rw [List.cons_append, isT_W]; decide
theorem yl_round : Yl roundB (PI roundB roundT) := by
 refine Zbo (yl_named _) fun nm _ hnm => Zbo (yl_valued _) fun pn _ hpn => Zbo (yl_valued _) fun qt _ hqt => Zbo yl_cut fun ct _ hct => Zbo (yl_flag _) fun fr _ hfr => Zbo yl_score fun s ks hs => Zbo yl_tieRef fun t kt ht => Zd2 ?_
 obtain ⟨rfl, hv, hr⟩ := hnm
 obtain ⟨rfl, hpn⟩ := hpn
 obtain ⟨rfl, hqt⟩ := hqt
 obtain ⟨hct, rfl⟩ := hct
 obtain ⟨p, x⟩ := s
 obtain ⟨tn, ti⟩ := t
 have e : roundT ⟨nm, pn, qt, ct, p, fr, x, tn, ti⟩ = [tkW wRound, tkW nm, tkW wPanel, tkN pn, tkW wQuota, tkN qt] ++ cutT ct ++ (if fr then [tkW wFree] else []) ++ scT p x ++ trT tn ti ++ [tkS sSemi] := rfl
 have hsc : (p, x) = (true, .mk 0 [] 0 0 []) ∨ (p = false ∧ GOk 16 x) := hs.elim (fun h => .inl h.1) fun ⟨h1, _, _, h2⟩ => .inr ⟨h1, h2.g⟩
 have hti : (ti = 0 ∧ NmOk tn) ∨ (tn, ti) = ([], -1) := ht.elim (fun h => .inl ⟨h.1, h.2.1⟩) fun h => .inr h.1
 refine ⟨fun l z => ?_, ?_, ?_⟩
 · rw [e]
   refine step_T ?_ l
   simp only [List.cons_append, List.nil_append, List.append_assoc]
   unfold roundB
   rw [Zal (named_W hr _), Zal (valued_N _ _ _), Zal (valued_N _ _ _), Zal (cut_T hct _), Zal (flag_T (scT_free _ _ _) _), Zal (score_T hsc (trT_inert _ _ _)), Zal (tieRef_T hti (by rw [isT_S]; decide))]
   rfl
 · rw [e]
   refine Zd3 (Zd3 (Zd3 (Zd3 (Zd3 (Zbk (by decide) (Zbk hv (Zbk (by decide) (Zbk hpn (Zbk (by decide) (Zbk hqt Zcx)))))) ?_) ?_) ?_) ?_) (Zbk (by decide) Zcx)
   · rcases hct with rfl | rfl | rfl <;> exact Zbk (by decide) Zcx
   · cases fr
     · exact Zcx
     · exact Zbk (by decide) Zcx
   · rcases hs with ⟨h, -⟩ | ⟨h, _, _, h2⟩
     · injection h with e1 e2; subst e1 e2; exact Zbk (by decide) Zcx
     · simp only at h; subst h; exact Zbk (by decide) h2.v
   · rcases ht with ⟨h, h2, -⟩ | ⟨h, -⟩
     · simp only at h; subst h; exact Zbk (by decide) (Zbk h2.1 Zcx)
     · injection h with e1 e2; subst e1 e2; exact Zcx
 · have l1 : (cutT ct).length = 1 := by rcases hct with rfl | rfl | rfl <;> rfl
   rw [e]
   simp only [List.length_append, List.length_cons, List.length_nil, l1]
   have l2 : (if fr then [tkW wFree] else []).length = if fr then 1 else 0 := by cases fr <;> rfl
   have l3 : (trT tn ti).length ≤ kt := by
     rcases ht with ⟨h, _, rfl⟩ | ⟨h, rfl⟩
     · simp only at h; subst h; exact Nat.le_refl 2
     · injection h with e1 e2; subst e1 e2; exact Nat.le_refl 0
   have l4 : (scT p x).length ≤ ks := by
     rcases hs with ⟨h, rfl⟩ | ⟨h, k', rfl, h2⟩
     · injection h with e1 e2; subst e1 e2; exact Nat.le_refl 1
     · simp only at h; subst h; exact Nat.succ_le_succ h2.l
   rw [l2]
   omega
theorem yl_num1 : Yl numP (P1 numP fun n => [tkN n]) := yl_mono yl_num fun n k h => ⟨fun z => num_N n z, Zbk h.2 Zcx, by rw [h.1]; exact Nat.le_refl _⟩
abbrev PN := PC numP fun n => [tkN n]
theorem yl_prizes : Yl prizesP fun l k => (l = [] ∧ k = 0) ∨ ∃ k', k = k' + 2 ∧ PN l k' :=
 Zdu (Zbo (Zcm _) fun _ _ h1 => Zbo (yl_list yl_num1) fun l k hl => Zbo (Zcm _) fun _ _ h2 => Zd2 (.inr ⟨k, by omega, hl⟩)) (Zd2 (.inl ⟨rfl, rfl⟩))
abbrev pzT (l : List Int) : List TokD := if l = [] then [] else tkW wPrizes :: commaT l ++ [tkS sSemi]
theorem prizes_T {l : List Int} (h : l = [] ∨ ∃ k, PN l k) {z : List TokD} (hz : isT wPrizes z = false) : prizesP (pzT l ++ z) = .ok (l, z) := by
 rcases h with rfl | ⟨k, h⟩
 · show prizesP z = _
   unfold prizesP; rw [if_neg (by rw [hz]; decide)]; rfl
 · unfold pzT; rw [if_neg h.ne]
   simp only [List.cons_append, List.append_assoc, List.nil_append]
   unfold prizesP
   rw [if_pos (Zdm _ _), Zal (Zdk _ _), comma_cT, Zal (list_T lw_numT (by rw [isT_S]; decide) h), Zal (want_S _ _)]; rfl
theorem yl_points : Yl pointsP fun q k => (q = ([], 0) ∧ k = 0) ∨ ∃ k', k = k' + 4 ∧ PN q.1 k' ∧ validB (tkN q.2) = true :=
 Zdu (Zbo (Zcm _) fun _ _ h1 => Zbo (yl_list yl_num1) fun l k hl => Zbo (yl_valued _) fun b _ hb => Zbo (Zcm _) fun _ _ h2 => Zd2 (.inr ⟨k, by have := hb.1; omega, hl, hb.2⟩)) (Zd2 (.inl ⟨rfl, rfl⟩))
abbrev ptT (l : List Int) (b : Int) : List TokD := if l = [] then [] else tkW wPoints :: commaT l ++ [tkW wBest, tkN b, tkS sSemi]
theorem points_T {l : List Int} {b : Int} (h : (l, b) = ([], 0) ∨ ∃ k, PN l k) {z : List TokD} (hz : isT wPoints z = false) : pointsP (ptT l b ++ z) = .ok ((l, b), z) := by
 rcases h with e | ⟨k, h⟩
 · injection e with e1 e2; subst e1 e2
   show pointsP z = _
   unfold pointsP; rw [if_neg (by rw [hz]; decide)]; rfl
 · unfold ptT; rw [if_neg h.ne]
   simp only [List.cons_append, List.append_assoc, List.nil_append]
   unfold pointsP
   rw [if_pos (Zdm _ _), Zal (Zdk _ _), comma_cT, Zal (list_T lw_numT (by rw [isT_W]; decide) h), Zal (valued_N _ _ _), Zal (want_S _ _)]; rfl
def HW (ws : List (List UInt8)) (u : List TokD) : Prop := u = [] ∨ ∃ w ∈ ws, ∃ v, u = tkW w :: v
theorem HW.app {ws vs : List (List UInt8)} {u v : List TokD} (h : HW ws u) (k : HW vs v) : HW (ws ++ vs) (u ++ v) := by
 rcases h with rfl | ⟨w, hw, u', rfl⟩
 · rcases k with rfl | ⟨w, hw, v', rfl⟩
   · exact .inl rfl
   · exact .inr ⟨w, List.mem_append_right _ hw, v', rfl⟩
 · exact .inr ⟨w, List.mem_append_left _ hw, u' ++ v, rfl⟩
theorem HW.no {ws : List (List UInt8)} {u : List TokD} (h : HW ws u) {w : List UInt8} (hw : w ∉ ws) : isT w u = false := by
 rcases h with rfl | ⟨w', hw', v, rfl⟩
 · rfl
 · rw [isT_W]; simp only [decide_eq_false_iff_not]; rintro rfl; exact hw hw'
theorem hw_flat {tk : α → List TokD} {w : List UInt8} (h : ∀ x, ∃ v, tk x = tkW w :: v) (xs : List α) : HW [w] (xs.flatMap tk) := by
 cases xs with
 | nil => exact .inl rfl
 | cons x xs =>
   obtain ⟨v, e⟩ := h x
   exact .inr ⟨w, by simp, v ++ xs.flatMap tk, by rw [List.flatMap_cons, e]; rfl⟩
theorem hw_pz (l : List Int) : HW [wPrizes] (pzT l) := by unfold pzT; split; exact .inl rfl; exact .inr ⟨_, by simp, _, rfl⟩
theorem hw_pt (l : List Int) (b : Int) : HW [wPoints] (ptT l b) := by unfold ptT; split; exact .inl rfl; exact .inr ⟨_, by simp, _, rfl⟩
theorem yl_rules : Yl rulesP fun r k => rulesP (rulesT r) = .ok (r, []) ∧ Va (rulesT r) ∧ (rulesT r).length ≤ k := by
 refine Zbo (yl_named _) fun nm _ hnm => Zbo (Zcm _) fun _ _ e1 => Zbo (yl_some _ yl_crit) fun cs _ hcs => Zbo (yl_some _ (yl_item _ (by decide))) fun bs _ hbs => Zbo (yl_some _ (yl_item _ (by decide))) fun ms _ hms => Zbo (yl_some _ yl_tie) fun tis _ htis => Zbo (yl_some _ yl_round) fun rs _ hrs => Zbo yl_prizes fun pz kz hpz => Zbo yl_points fun pt kt hpt => ?_
 refine ⟨fun {ts y r} hvt h => ?_⟩
 obtain ⟨_, u, h1, h2⟩ := Zd1 h
 obtain ⟨rfl, rfl⟩ := end_ok h1
 injection h2 with h2; injection h2 with h2 h3; subst h2 h3
 refine ⟨[], rfl, ?_⟩
 obtain ⟨rfl, hv, hr⟩ := hnm
 obtain ⟨pl, pb⟩ := pt
 have e : rulesT ⟨nm, cs, bs, ms, tis, rs, pz, pl, pb⟩ = [tkW wCompetition, tkW nm, tkS sSemi] ++ cs.flatMap critT ++ bs.flatMap (itemT wBonus) ++ ms.flatMap (itemT wMalus) ++ tis.flatMap tieT ++ rs.flatMap roundT ++ pzT pz ++ ptT pl pb := rfl
 have w1 : HW [wBonus] (bs.flatMap (itemT wBonus)) := hw_flat (fun x => ⟨_, rfl⟩) _
 have w2 : HW [wMalus] (ms.flatMap (itemT wMalus)) := hw_flat (fun x => ⟨_, rfl⟩) _
 have w3 : HW [wTie] (tis.flatMap tieT) := hw_flat (fun x => ⟨_, rfl⟩) _
 have w4 : HW [wRound] (rs.flatMap roundT) := hw_flat (fun x => ⟨_, rfl⟩) _
 have w5 := (hw_pz pz).app (hw_pt pl pb)
 have w6 := w4.app w5
 have w7 := w3.app w6
 have w8 := w2.app w7
 have w9 := w1.app w8
 have hpz' : pz = [] ∨ ∃ k, PN pz k := hpz.elim (fun h => .inl h.1) fun ⟨k, _, h⟩ => .inr ⟨k, h⟩
 have hpt' : (pl, pb) = ([], 0) ∨ ∃ k, PN pl k := hpt.elim (fun h => .inl h.1) fun ⟨k, _, h, _⟩ => .inr ⟨k, h⟩
 refine ⟨?_, ?_, ?_⟩
 · rw [e]
   simp only [List.cons_append, List.nil_append, List.append_assoc]
   unfold rulesP someP
   have c1 := some_T (w := wCriterion) less_crit (tk := critT) (fun x z => by unfold critT; exact Zdm _ _) (w9.no (by decide)) cs [] hcs.t
   have c2 := some_T (w := wBonus) (less_item _) (tk := itemT wBonus) (fun x z => Zdm _ _) (w8.no (by decide)) bs [] hbs.t
   have c3 := some_T (w := wMalus) (less_item _) (tk := itemT wMalus) (fun x z => Zdm _ _) (w7.no (by decide)) ms [] hms.t
   have c4 := some_T (w := wTie) less_tie (tk := tieT) (fun x z => by unfold tieT; exact Zdm _ _) (w6.no (by decide)) tis [] htis.t
   have c5 := some_T (w := wRound) less_round (tk := roundT) (fun x z => by unfold roundT; exact Zdm _ _) (w5.no (by decide)) rs [] hrs.t
   have c6 := prizes_T hpz' ((hw_pt pl pb).no (w := wPrizes) (by decide))
   have c7 := points_T hpt' (z := []) rfl
   rw [List.append_nil] at c7
   rw [Zal (named_W hr _), Zal (want_S _ _), Zal c1, Zal c2, Zal c3, Zal c4, Zal c5, Zal c6, Zal c7]
   rfl
 · rw [e]
   refine Zd3 (Zd3 (Zd3 (Zd3 (Zd3 (Zd3 (Zd3 (Zbk (by decide) (Zbk hv (Zbk (by decide) Zcx))) hcs.v) hbs.v) hms.v) htis.v) hrs.v) ?_) ?_
   · rcases hpz with ⟨rfl, -⟩ | ⟨k, _, h⟩
     · exact Zcx
     · unfold pzT; rw [if_neg h.ne, comma_cT]; exact Zd3 (Zbk (by decide) h.v) (Zbk (by decide) Zcx)
   · rcases hpt with ⟨e', -⟩ | ⟨k, _, h, hb⟩
     · injection e' with e1 e2; subst e1 e2; exact Zcx
     · unfold ptT; rw [if_neg h.ne, comma_cT]; exact Zd3 (Zbk (by decide) h.v) (Zbk (by decide) (Zbk hb (Zbk (by decide) Zcx)))
 · have l1 : (pzT pz).length ≤ kz := by
     rcases hpz with ⟨rfl, rfl⟩ | ⟨k, rfl, h⟩
     · exact Nat.le_refl 0
     · unfold pzT; rw [if_neg h.ne, comma_cT]; have := h.l; simp only [List.length_append, List.length_cons, List.length_nil]; omega
   have l2 : (ptT pl pb).length ≤ kt := by
     rcases hpt with ⟨e', rfl⟩ | ⟨k, rfl, h, hb⟩
     · injection e' with e1 e2; subst e1 e2; exact Nat.le_refl 0
     · unfold ptT; rw [if_neg h.ne, comma_cT]; have : (cT (fun n => [tkN n]) pl).length ≤ k := h.l; simp only [List.length_append, List.length_cons, List.length_nil]; omega
   rw [e]
   simp only [List.length_append, List.length_cons, List.length_nil]
   have := hcs.l; have := hbs.l; have := hms.l; have := htis.l; have := hrs.l
   omega
theorem back_plain {l : List TokD} {x : RulesD} (hv : ∀ t ∈ l, validB t = true) (h : rulesP l = .ok (x, [])) : Va (rulesT x) ∧ rulesP (rulesT x) = .ok (x, []) ∧ (rulesT x).length ≤ l.length := by
 obtain ⟨c, rfl, h1, h2, h3⟩ := yl_rules.into hv h
 rw [List.append_nil]
 exact ⟨h2, h1, h3⟩
end Go.Sx
namespace Go.Sx
open Go.Lx Go.Fr
variable {α β σ : Type}
def NotW (w : List UInt8) (t : TokD) : Prop := ¬ (t.kind ≠ 2 ∧ t.text = w)
theorem qw_not {w v : List UInt8} (h : v ≠ w) : QW (NotW w) v := fun _ _ e ⟨_, e'⟩ => h (e.symm.trans e')
theorem qn_not {w : List UInt8} (h : reservedB w = true) : QN (NotW w) := fun t _ hr ⟨_, e⟩ => by rw [e, h] at hr; cases hr
theorem qm_not {w : List UInt8} : QM (NotW w) := fun _ h ⟨h', _⟩ => h' h
def Hole (D E : List TokD → Prop) (f : List TokD → Res β) (ts : List TokD) (v : β × List TokD) : Prop :=
 ∃ A X B x, ts = A ++ (X ++ B) ∧ A ≠ [] ∧ exprN 16 (X ++ B) = .ok (x, B) ∧ D A ∧ E B ∧ (∀ Y, exprN 16 (Y ++ B) = .ok (x, B) → f (A ++ (Y ++ B)) = .ok v) ∧ ∀ Y e, exprN 16 (Y ++ B) = .error e → f (A ++ (Y ++ B)) = .error e
theorem hole_left {D E E' : List TokD → Prop} {f : List TokD → Res α} {g : α → List TokD → Res β} {ts u : List TokD} {x : α} {v : β × List TokD} (h : Hole D E f ts (x, u)) (hg : g x u = .ok v) (he : ∀ B, E B → E' B) : Hole D E' (bnd f g) ts v := by
 obtain ⟨A, X, B, y, h1, h2, h3, h4, h5, h6, h7⟩ := h
 exact ⟨A, X, B, y, h1, h2, h3, h4, he B h5, fun Y hY => by rw [Zal (h6 Y hY)]; exact hg, fun Y e hY => Zap (h7 Y e hY)⟩
theorem hole_right {D D' E : List TokD → Prop} {Q : TokD → Prop} {f : List TokD → Res α} {g : α → List TokD → Res β} {ts u : List TokD} {x : α} {v : β × List TokD} (hf : Lw Q f) (h1 : f ts = .ok (x, u)) (h : Hole D E (g x) u v) (hd : ∀ c A, (∀ t ∈ c, Q t) → D A → D' (c ++ A)) : Hole D' E (bnd f g) ts v := by
 obtain ⟨A, X, B, y, rfl, h2, h3, h4, h5, h6, h7⟩ := h
 obtain ⟨c, rfl, hq, hl⟩ := hf.ok h1
 have hh : ∀ Y, f (c ++ (A ++ (Y ++ B))) = .ok (x, A ++ (Y ++ B)) := fun Y => hl (by simp [h2]) _ (by cases A with | nil => exact absurd rfl h2 | cons a A => rfl)
 refine ⟨c ++ A, X, B, y, by rw [List.append_assoc], by simp [h2], h3, hd c A hq h4, h5, fun Y hY => ?_, fun Y e hY => ?_⟩
 · rw [List.append_assoc, Zal (hh Y)]; exact h6 Y hY
 · rw [List.append_assoc, Zal (hh Y)]; exact h7 Y e hY
def D1 (A : List TokD) : Prop := ∃ c s, A = c ++ [s] ∧ (∀ t ∈ c, NotW wScore t) ∧ s.kind ≠ 2 ∧ s.text = wScore
theorem d1_app (c A : List TokD) (h : ∀ t ∈ c, NotW wScore t) (k : D1 A) : D1 (c ++ A) := by
 obtain ⟨c', s, rfl, h1, h2⟩ := k
 exact ⟨c ++ c', s, by rw [List.append_assoc], fun t ht => (List.mem_append.1 ht).elim (h t) (h1 t), h2⟩
theorem hole_score {ts u : List TokD} {x : Ex} (h : scoreP ts = .ok ((false, x), u)) : Hole D1 (fun B => B = u) scoreP ts ((false, x), u) := by
 unfold scoreP at h
 by_cases hb : isT wPlaces ts = true
 · rw [if_pos hb] at h
   obtain ⟨_, _, _, h2⟩ := Zd1 h
   injection h2 with h2; injection h2 with h2 _; injection h2 with h2 _; cases h2
 · rw [if_neg hb] at h
   obtain ⟨_, u1, h1, h2⟩ := Zd1 h
   obtain ⟨t, rfl, k1, k2⟩ := want_ok h1
   obtain ⟨y, u2, h3, h4⟩ := Zd1 h2
   injection h4 with h4; injection h4 with h5 h6; injection h5 with _ h5; subst h5 h6
   obtain ⟨X, rfl, -, -⟩ := (lw_exprT 16).ok h3
   have hw : ∀ z, want wScore (t :: z) = .ok ((), z) := fun z => by unfold want; rw [if_pos (by unfold isT; simp [k1, k2])]; rfl
   have hs : ∀ z, scoreP (t :: z) = (bnd (exprN 16) fun x => ret (false, x)) z := fun z => by
     unfold scoreP
     rw [if_neg (by show ¬ (decide (t.kind ≠ 2) && decide (t.text = wPlaces)) = true; rw [k2, show decide (wScore = wPlaces) = false by decide, Bool.and_false]; decide), Zal (hw z)]
   refine ⟨[t], X, u2, y, rfl, by simp, h3, ⟨[], t, rfl, fun _ h => by (cases h), k1, k2⟩, rfl, fun Y hY => ?_, fun Y e hY => ?_⟩
   · show scoreP (t :: (Y ++ u2)) = _
     rw [hs, Zal hY]; rfl
   · show scoreP (t :: (Y ++ u2)) = _
     rw [hs, Zap hY]
theorem tieRef_end {B u : List TokD} {q : List UInt8 × Int} (h : tieRefP B = .ok (q, u)) : isT wTie B = true ∨ u = B := by
 unfold tieRefP at h
 by_cases hb : isT wTie B = true
 · exact .inl hb
 · rw [if_neg hb] at h
   injection h with h; injection h with _ h; exact .inr h.symm
theorem hole_round {ts u : List TokD} {r : RoundD} (h : roundB ts = .ok (r, u)) (hp : r.places = false) : Hole D1 (fun B => isT wTie B = true ∨ u = B) roundB ts (r, u) := by
 have n : QN (NotW wScore) := qn_not (by decide)
 have m : QM (NotW wScore) := qm_not
 unfold roundB at h ⊢
 obtain ⟨nm, u1, h1, h⟩ := Zd1 h
 obtain ⟨pn, u2, h2, h⟩ := Zd1 h
 obtain ⟨qt, u3, h3, h⟩ := Zd1 h
 obtain ⟨ct, u4, h4, h⟩ := Zd1 h
 obtain ⟨fr, u5, h5, h⟩ := Zd1 h
 obtain ⟨s, u6, h6, h⟩ := Zd1 h
 have h' := h
 obtain ⟨t, u7, h7, h'⟩ := Zd1 h'
 injection h' with h'; injection h' with e1 e2; subst e1 e2
 obtain ⟨p, x⟩ := s
 simp only at hp; subst hp
 refine hole_right (lw_named (qw_not (by decide)) n) h1 ?_ d1_app
 refine hole_right (Zd6 (qw_not (by decide)) m) h2 ?_ d1_app
 refine hole_right (Zd6 (qw_not (by decide)) m) h3 ?_ d1_app
 refine hole_right (lw_cut (fun w hw => qw_not (by rintro rfl; revert hw; decide))) h4 ?_ d1_app
 refine hole_right (lw_flag (qw_not (by decide))) h5 ?_ d1_app
 exact hole_left (hole_score h6) h fun B hB => by subst hB; exact tieRef_end h7
abbrev EndE (B : List TokD) : Prop := isT wTie B = true ∨ isT sSemi B = true
def D2 (A : List TokD) : Prop := ∃ c A', A = c ++ A' ∧ (∀ t ∈ c, NotW wRound t) ∧ D1 A' ∧ isT wRound A' = true
theorem d2_app (c A : List TokD) (h : ∀ t ∈ c, NotW wRound t) (k : D2 A) : D2 (c ++ A) := by
 obtain ⟨c', s, rfl, h1, h2⟩ := k
 exact ⟨c ++ c', s, by rw [List.append_assoc], fun t ht => (List.mem_append.1 ht).elim (h t) (h1 t), h2⟩
theorem loop_head {w : List UInt8} {item : List TokD → Res α} : ∀ (n : Nat) (l : List α) (ts : List TokD) (xs : List α) (u : List TokD), loopP (isT w) (someStep item) n l ts = .ok (xs, u) → ∃ m, xs = l ++ m
 | 0, l, ts, xs, u, h => by rw [loopP] at h; injection h with h; injection h with h _; exact ⟨[], by rw [h, List.append_nil]⟩
 | n + 1, l, ts, xs, u, h => by
   rw [loopP] at h
   by_cases hb : isT w ts = true
   · rw [if_pos hb] at h
     cases he : someStep item l ts with
     | error e => rw [he] at h; cases h
     | ok q =>
       obtain ⟨s', r⟩ := q
       rw [he] at h
       obtain ⟨m, hm⟩ := loop_head n s' r xs u h
       unfold someStep at he
       obtain ⟨y, u1, _, he⟩ := Zd1 he
       obtain ⟨_, u2, _, he⟩ := Zd1 he
       injection he with he; injection he with he _; subst he
       exact ⟨y :: m, by rw [hm, List.append_assoc]; rfl⟩
   · rw [if_neg hb] at h
     injection h with h; injection h with h _; exact ⟨[], by rw [h, List.append_nil]⟩
theorem hole_rounds {ts u : List TokD} {r : RoundD} {rs : List RoundD} (h : someP wRound roundB ts = .ok (r :: rs, u)) (hp : r.places = false) : Hole D2 EndE (someP wRound roundB) ts (r :: rs, u) := by
 unfold someP at h ⊢
 have er : ∀ s z, runP (isT wRound) (someStep roundB) s z = _ := Zde (test := isT wRound) rfl (less_someStep less_round)
 have h0 := h
 rw [er] at h0
 by_cases hb : isT wRound ts = true
 · rw [if_pos hb] at h0
   obtain ⟨l1, u1, h1, h2⟩ := Zd1 h0
   have h1' := h1
   unfold someStep at h1'
   obtain ⟨y, u2, h3, h4⟩ := Zd1 h1'
   have h4' := h4
   obtain ⟨_, u3, h5, h4'⟩ := Zd1 h4'
   injection h4' with h4'; injection h4' with e1 e2; subst e1 e2
   obtain ⟨m, hm⟩ := loop_head _ _ _ _ _ h2
   rw [List.nil_append, List.cons_append, List.nil_append] at hm
   injection hm with hm1 hm2; subst hm1
   have H := hole_round h3 hp
   obtain ⟨t, rfl, -, -⟩ := want_ok h5
   have H2 : Hole D1 EndE (someStep roundB []) ts ([] ++ [r], u3) := by
     unfold someStep
     refine hole_left H h4 fun B hB => ?_
     rcases hB with hB | rfl
     · exact .inl hB
     · exact .inr (by obtain ⟨t', e, k1, k2⟩ := want_ok h5; unfold isT; rw [e]; simp [k1, k2])
   have H3 : Hole D1 EndE (bnd (someStep roundB []) (runP (isT wRound) (someStep roundB))) ts (r :: rs, u) := hole_left H2 h2 fun _ h => h
   obtain ⟨A, X, B, x, e1, e2, e3, e4, e5, e6, e7⟩ := H3
   have hA : isT wRound A = true := by
     cases A with
     | nil => exact absurd rfl e2
     | cons a A => rw [← hb, e1]; exact Zct _ _ _ rfl
   have hAY : ∀ z, isT wRound (A ++ z) = true := fun z => by
     cases A with
     | nil => exact absurd rfl e2
     | cons a A => rw [← hA]; exact Zct _ _ _ rfl
   exact ⟨A, X, B, x, e1, e2, e3, ⟨[], A, rfl, fun _ h => by (cases h), e4, hA⟩, e5, fun Y hY => by rw [er, if_pos (hAY _)]; exact e6 Y hY, fun Y e hY => by rw [er, if_pos (hAY _)]; exact e7 Y e hY⟩
 · rw [if_neg hb] at h0
   injection h0 with h0; injection h0 with h0 _; cases h0
theorem hole_rules {ts : List TokD} {r : RulesD} {r0 : RoundD} {rs : List RoundD} (h : rulesP ts = .ok (r, [])) (hr : r.rounds = r0 :: rs) (hp : r0.places = false) : Hole D2 EndE rulesP ts (r, []) := by
 have n : QN (NotW wRound) := qn_not (by decide)
 have m : QM (NotW wRound) := qm_not
 unfold rulesP at h ⊢
 obtain ⟨nm, u1, h1, h⟩ := Zd1 h
 obtain ⟨_, u2, h2, h⟩ := Zd1 h
 obtain ⟨cs, u3, h3, h⟩ := Zd1 h
 obtain ⟨bs, u4, h4, h⟩ := Zd1 h
 obtain ⟨ms, u5, h5, h⟩ := Zd1 h
 obtain ⟨ti, u6, h6, h⟩ := Zd1 h
 obtain ⟨rr, u7, h7, h⟩ := Zd1 h
 have h' := h
 obtain ⟨_, _, _, h'⟩ := Zd1 h'
 obtain ⟨_, _, _, h'⟩ := Zd1 h'
 obtain ⟨_, _, _, h'⟩ := Zd1 h'
 injection h' with h'; injection h' with e1 e2; subst e1
 simp only at hr; subst hr
 have W : ∀ {l : List (List UInt8)}, wRound ∉ l → ∀ w ∈ l, QW (NotW wRound) w := fun hl w hw => qw_not (by rintro rfl; exact hl hw)
 refine hole_right (lw_named (qw_not (by decide)) n) h1 ?_ d2_app
 refine hole_right (Zbb (qw_not (by decide))) h2 ?_ d2_app
 refine hole_right (lw_some _ (qw_not (by decide)) (lw_crit n m (W (by decide))) less_crit) h3 ?_ d2_app
 refine hole_right (lw_some _ (qw_not (by decide)) (lw_item n m (W (by decide))) (less_item _)) h4 ?_ d2_app
 refine hole_right (lw_some _ (qw_not (by decide)) (lw_item n m (W (by decide))) (less_item _)) h5 ?_ d2_app
 refine hole_right (lw_some _ (qw_not (by decide)) (lw_tie n (qw_not (by decide)) (qw_not (by decide)) (W (by decide))) less_tie) h6 ?_ d2_app
 exact hole_left (hole_rounds h7 hp) h fun _ h => h
abbrev opensT (k : Nat) : List TokD := List.replicate k (tkS sOpen)
abbrev closes (k : Nat) : List TokD := List.replicate k (tkS sClose)
theorem closes_snoc (k : Nat) (z : List TokD) : closes (k + 1) ++ z = closes k ++ (tkS sClose :: z) := by
 show List.replicate (k + 1) _ ++ z = _
 rw [List.replicate_succ', List.append_assoc]; rfl
theorem parens {X : List TokD} {x : Ex} (hX : X ≠ []) (h : ∀ z, Inert z → exprN 16 (X ++ z) = .ok (x, z)) : ∀ (k n : Nat) (z : List TokD), n ≤ 16 → Inert z →
   (exprN n (opensT k ++ (X ++ (closes k ++ z))) = .ok (x, z) ∧ k ≤ n) ∨ ∃ e, exprN n (opensT k ++ (X ++ (closes k ++ z))) = .error e ∧ (closes k ++ z).length < e.length
 | 0, n, z, hn, hz => by
   rcases (dp_exprN 16 n hn).into (h z hz) with h1 | ⟨e, h1, h2⟩
   · exact .inl ⟨h1, Nat.zero_le _⟩
   · exact .inr ⟨e, h1, h2⟩
 | k + 1, n, z, hn, hz => by
   have e0 : opensT (k + 1) ++ (X ++ (closes (k + 1) ++ z)) = tkS sOpen :: (opensT k ++ (X ++ (closes k ++ (tkS sClose :: z)))) := by
     rw [closes_snoc]; rfl
   have hlt : (closes (k + 1) ++ z).length = (closes k ++ (tkS sClose :: z)).length := by rw [closes_snoc]
   have hXl : 0 < X.length := List.length_pos_iff.2 hX
   rw [e0, hlt]
   cases n with
   | zero =>
     refine .inr ⟨tkS sOpen :: (opensT k ++ (X ++ (closes k ++ (tkS sClose :: z)))), ?_, ?_⟩
     · unfold exprN exprOf termN
       refine Zap ?_
       rw [term_notNum (num_S _ _)]
       unfold factorB
       rw [if_neg (by rw [nm_S]; decide), if_neg (isT_neS (by decide) _), if_neg (isT_neS (by decide) _), if_neg (isT_neS (by decide) _), if_neg (isT_neS (by decide) _), if_neg (isT_neS (by decide) _), if_neg (isT_neS (by decide) _), if_pos (isT_eqS _ _)]
       rfl
     · simp only [List.length_cons, List.length_append]; omega
   | succ m =>
     have hf : termN (m + 1) (tkS sOpen :: (opensT k ++ (X ++ (closes k ++ (tkS sClose :: z))))) = (bnd (exprN m) fun x => bnd (want sClose) fun _ => ret x) (opensT k ++ (X ++ (closes k ++ (tkS sClose :: z)))) := by
       rw [show termN (m + 1) = termB true (termN m) (exprN m) from rfl, term_notNum (num_S _ _), fac_open]
     rcases parens hX h k m (tkS sClose :: z) (by omega) (inert_S _ (by decide)) with ⟨h1, h2⟩ | ⟨e, h1, h2⟩
     · refine .inl ⟨?_, by omega⟩
       have : termN (m + 1) (tkS sOpen :: (opensT k ++ (X ++ (closes k ++ (tkS sClose :: z))))) = .ok (x, z) := by
         rw [hf, Zal h1, Zal (want_S _ _)]; rfl
       unfold exprN exprOf
       rw [Zal this, Zde rfl (less_addStep (lw_termT (m + 1))), if_neg (by rw [inert_add z hz]; decide)]; rfl
     · refine .inr ⟨e, ?_, h2⟩
       unfold exprN exprOf
       refine Zap ?_
       rw [hf, Zap h1]
def scanA (f : Int) (t : TokD) : Int := if t.text = wRound ∧ t.kind = 1 ∧ f = 0 then -1 else f
def scanB (i : Nat) (f : Int) (t : TokD) : Int := if t.text = wScore ∧ t.kind = 1 ∧ f = -1 then (i : Int) + 1 else f
def scanC (i : Nat) (f u : Int) (t : TokD) : Int := if (t.text = sSemi ∨ t.text = wTie) ∧ 0 < f ∧ u = 0 then (i : Int) else u
def scanS (i : Nat) (s : Int × Int) (t : TokD) : Int × Int := (scanB i (scanA s.1 t) t, scanC i (scanB i (scanA s.1 t) t) s.2 t)
theorem scanS_of {i : Nat} {f u f1 f2 u2 : Int} {t : TokD} (h1 : scanA f t = f1) (h2 : scanB i f1 t = f2) (h3 : scanC i f2 u t = u2) : scanS i (f, u) t = (f2, u2) := by
 unfold scanS
 simp only [h1, h2, h3]
theorem scanA_no {f : Int} {t : TokD} (h : ¬ (t.text = wRound ∧ t.kind = 1 ∧ f = 0)) : scanA f t = f := by unfold scanA; rw [if_neg h]
theorem scanB_no {i : Nat} {f : Int} {t : TokD} (h : ¬ (t.text = wScore ∧ t.kind = 1 ∧ f = -1)) : scanB i f t = f := by unfold scanB; rw [if_neg h]
theorem scanC_no {i : Nat} {f u : Int} {t : TokD} (h : ¬ ((t.text = sSemi ∨ t.text = wTie) ∧ 0 < f ∧ u = 0)) : scanC i f u t = u := by unfold scanC; rw [if_neg h]
def scanL : Nat → Int × Int → List TokD → Int × Int
 | _, s, [] => s
 | i, s, t :: l => scanL (i + 1) (scanS i s t) l
theorem scanL_app : ∀ (l m : List TokD) (i : Nat) (s : Int × Int), scanL i s (l ++ m) = scanL (i + l.length) (scanL i s l) m
 | [], m, i, s => rfl
 | t :: l, m, i, s => by
   rw [List.cons_append, scanL, scanL, scanL_app l m (i + 1), List.length_cons, show i + 1 + l.length = i + (l.length + 1) by omega]
theorem scanL_take (l : List TokD) (j : Nat) (h : j < l.length) : scanL 0 (0, 0) (l.take (j + 1)) = scanS j (scanL 0 (0, 0) (l.take j)) l[j] := by
 rw [List.take_succ_eq_append_getElem h, scanL_app, List.length_take, Nat.min_eq_left (by omega), Nat.zero_add]; rfl
theorem scan_pre : ∀ (l : List TokD) (i : Nat), (∀ t ∈ l, NotW wRound t) → scanL i (0, 0) l = (0, 0)
 | [], _, _ => rfl
 | t :: l, i, h => by
   have : scanS i (0, 0) t = (0, 0) := scanS_of (scanA_no fun ⟨a, b, _⟩ => h t (by simp) ⟨by rw [b]; decide, a⟩) (scanB_no fun ⟨_, _, e⟩ => absurd e (by decide)) (scanC_no fun ⟨_, e, _⟩ => absurd e (by decide))
   rw [scanL, this]
   exact scan_pre l (i + 1) fun u hu => h u (List.mem_cons_of_mem _ hu)
theorem scan_mid : ∀ (l : List TokD) (i : Nat), (∀ t ∈ l, NotW wScore t) → scanL i (-1, 0) l = (-1, 0)
 | [], _, _ => rfl
 | t :: l, i, h => by
   have : scanS i (-1, 0) t = (-1, 0) := scanS_of (scanA_no fun ⟨_, _, e⟩ => absurd e (by decide)) (scanB_no fun ⟨a, b, _⟩ => h t (by simp) ⟨by rw [b]; decide, a⟩) (scanC_no fun ⟨_, e, _⟩ => absurd e (by decide))
   rw [scanL, this]
   exact scan_mid l (i + 1) fun u hu => h u (List.mem_cons_of_mem _ hu)
theorem scan_inn (a : Nat) (ha : 0 < a) : ∀ (l : List TokD) (i : Nat), (∀ t ∈ l, t.text ≠ sSemi ∧ t.text ≠ wTie) → scanL i ((a : Int), 0) l = ((a : Int), 0)
 | [], _, _ => rfl
 | t :: l, i, h => by
   have : scanS i ((a : Int), 0) t = ((a : Int), 0) := scanS_of (scanA_no fun ⟨_, _, e⟩ => by omega) (scanB_no fun ⟨_, _, e⟩ => by omega) (scanC_no fun ⟨e, _⟩ => e.elim (h t (by simp)).1 (h t (by simp)).2)
   rw [scanL, this]
   exact scan_inn a ha l (i + 1) fun u hu => h u (List.mem_cons_of_mem _ hu)
theorem scan_out (a b : Nat) (ha : 0 < a) (hb : 0 < b) : ∀ (l : List TokD) (i : Nat), scanL i ((a : Int), (b : Int)) l = ((a : Int), (b : Int))
 | [], _ => rfl
 | t :: l, i => by
   have : scanS i ((a : Int), (b : Int)) t = ((a : Int), (b : Int)) := scanS_of (scanA_no fun ⟨_, _, e⟩ => by omega) (scanB_no fun ⟨_, _, e⟩ => by omega) (scanC_no fun ⟨_, _, e⟩ => by omega)
   rw [scanL, this]
   exact scan_out a b ha hb l (i + 1)
theorem kind_word {t : TokD} (hv : validB t = true) (h : t.kind ≠ 2) (hl : 1 < t.text.length) : t.kind = 1 := by
 unfold validB at hv
 by_cases h1 : t.kind = 1
 · exact h1
 · rw [if_neg h1, if_neg h] at hv
   by_cases h3 : t.kind = 3
   · rw [if_pos h3] at hv
     simp only [Bool.and_eq_true, decide_eq_true_eq] at hv
     omega
   · rw [if_neg h3] at hv; cases hv
theorem scan_all {A X B : List TokD} (hvA : Va A) (hA : D2 A) (hX : ∀ t ∈ X, t.text ≠ sSemi ∧ t.text ≠ wTie) (hXn : X ≠ []) (hB : EndE B) : scanL 0 (0, 0) (A ++ (X ++ B)) = ((A.length : Int), ((A.length + X.length : Nat) : Int)) := by
 obtain ⟨c, A', rfl, h1, ⟨c2, s, rfl, h2, h3, h4⟩, h5⟩ := hA
 have hl : 0 < X.length := List.length_pos_iff.2 hXn
 have hsv := hvA s (by simp)
 have hsk : s.kind = 1 := kind_word hsv h3 (by rw [h4]; decide)
 have hmid : scanL 0 (0, 0) (c ++ (c2 ++ [s])) = (((c ++ (c2 ++ [s])).length : Int), 0) := by
   rw [scanL_app, scan_pre c 0 h1]
   cases c2 with
   | nil =>
     exfalso
     rw [List.nil_append] at h5
     simp only [isT, h4] at h5
     revert h5
     simp only [Bool.and_eq_true, decide_eq_true_eq]
     rintro ⟨_, h⟩
     exact absurd h (by decide)
   | cons t c2 =>
     have htv := hvA t (by simp)
     obtain ⟨t', r', e, k1, k2⟩ := isT_cons h5
     injection e with e _; subst e
     have htk : t.kind = 1 := kind_word htv k1 (by rw [k2]; decide)
     have e1 : scanS (0 + c.length) (0, 0) t = (-1, 0) := scanS_of (by unfold scanA; rw [if_pos ⟨k2, htk, rfl⟩]) (scanB_no fun ⟨h, _⟩ => by rw [k2] at h; exact absurd h (by decide)) (scanC_no fun ⟨_, e, _⟩ => absurd e (by decide))
     rw [List.cons_append, scanL, e1, scanL_app, scan_mid c2 _ fun u hu => h2 u (List.mem_cons_of_mem _ hu), scanL, scanL]
     refine scanS_of (scanA_no fun ⟨_, _, e⟩ => absurd e (by decide)) (by unfold scanB; rw [if_pos ⟨h4, hsk, rfl⟩]) (scanC_no (by rintro ⟨h, _⟩; rw [h4] at h; rcases h with h | h <;> exact absurd h (by decide))) |>.trans ?_
     simp only [List.length_append, List.length_cons, List.length_nil]
     congr 1; omega
 rw [scanL_app, hmid, scanL_app, scan_inn _ (by simp only [List.length_append, List.length_cons, List.length_nil]; omega) X _ hX]
 cases B with
 | nil => rcases hB with h | h <;> cases h
 | cons b B =>
   have hbt : b.text = sSemi ∨ b.text = wTie := by
     rcases hB with h | h
     · obtain ⟨_, _, e, _, k⟩ := isT_cons h; injection e with e _; subst e; exact .inr k
     · obtain ⟨_, _, e, _, k⟩ := isT_cons h; injection e with e _; subst e; exact .inl k
   generalize hL : (c ++ (c2 ++ [s])).length = L at *
   have hLp : 0 < L := by rw [← hL]; simp only [List.length_append, List.length_cons, List.length_nil]; omega
   have e1 : scanS (0 + L + X.length) ((L : Int), 0) b = ((L : Int), ((L + X.length : Nat) : Int)) := by
     exact scanS_of (scanA_no fun ⟨_, _, e⟩ => by omega) (scanB_no fun ⟨_, _, e⟩ => by omega) (by unfold scanC; rw [if_pos ⟨hbt, by omega, rfl⟩, Nat.zero_add])
   rw [scanL, e1]
   exact scan_out L (L + X.length) hLp (by omega) B _
theorem word_pos {t : TokD} (h : validB t = true) : 0 < (word t).length := by
 obtain ⟨c, w, e, -⟩ := word_step h (b := []) fun d r e => by cases e
 rw [e]; exact Nat.succ_pos _
theorem brackets_plain {l : List TokD} {r : RulesD} {r0 : RoundD} {rs : List RoundD} (hv : ∀ t ∈ l, validB t = true) (h : rulesP l = .ok (r, [])) (hr : r.rounds = r0 :: rs) (hp : r0.places = false) :
   ∃ A X B, l = A ++ (X ++ B) ∧ A ≠ [] ∧ X ≠ [] ∧ scanL 0 (0, 0) l = ((A.length : Int), ((A.length + X.length : Nat) : Int)) ∧ ∀ k L : Nat, L = (joinF ((A ++ (opensT k ++ (X ++ (closes k ++ B)))).map word)).length →
     (readA (placed 0 (A ++ (opensT k ++ (X ++ (closes k ++ B))))) L = (r, 0, 0) ∧ k ≤ 16) ∨
     ∃ at_ : Nat, readA (placed 0 (A ++ (opensT k ++ (X ++ (closes k ++ B))))) L = (zeroR, (at_ : Int), 130) ∧ (joinF (A.map word)).length < at_ ∧ at_ < (joinF ((A ++ (opensT k ++ X)).map word)).length ∧ 0 < k := by
 obtain ⟨A, X, B, x, rfl, hA, hx, hD, hE, hok, herr⟩ := hole_rules h hr hp
 have hvA : Va A := fun t ht => hv t (List.mem_append_left _ ht)
 have hvX : Va X := fun t ht => hv t (List.mem_append_right _ (List.mem_append_left _ ht))
 have hXn : X ≠ [] := by
   rintro rfl
   have := (less_exprN 16).lt hx
   simp at this
 have hBi : Inert B := by
   rcases hE with h | h
   · obtain ⟨t, r', rfl, k1, k2⟩ := isT_cons h
     unfold Inert isT; simp [k2]
   · obtain ⟨t, r', rfl, k1, k2⟩ := isT_cons h
     unfold Inert isT; simp [k2]
 have hXq : ∀ t ∈ X, t.text ≠ sSemi ∧ t.text ≠ wTie := by
   have hq : Lw (fun t => validB t = true → t.text ≠ sSemi ∧ t.text ≠ wTie) (exprN 16) := lw_exprN (Q := fun t => validB t = true → t.text ≠ sSemi ∧ t.text ≠ wTie)
     (fun t hk hr' hvt => ⟨fun e => (by
       unfold validB at hvt
       rw [if_pos hk, e, show nameB sSemi = false by decide] at hvt
       cases hvt), fun e => (by rw [e] at hr'; revert hr'; decide)⟩)
     (fun t hk hvt => by
       unfold validB at hvt
       rw [if_neg (by rw [hk]; decide), if_pos hk] at hvt
       simp only [Bool.and_eq_true, decide_eq_true_eq] at hvt
       rw [hvt.1]; decide)
     (fun w hw t _ e _ => by rw [e]; exact (by decide : ∀ w ∈ exprW, w ≠ sSemi ∧ w ≠ wTie) w hw) 16
   obtain ⟨c, e, hc, -⟩ := hq.ok hx
   obtain rfl := List.append_cancel_right e
   exact fun t ht => hc t ht (hvX t ht)
 refine ⟨A, X, B, rfl, hA, hXn, scan_all hvA hD hXq hXn hE, fun k L hL => ?_⟩
 have hX16 : ∀ z, Inert z → exprN 16 (X ++ z) = .ok (x, z) := fun z hz => (fol_exprN 16).into hx hBi z hz
 have hvk : Va (opensT k) := fun t ht => by rw [List.eq_of_mem_replicate ht]; decide
 generalize hm : A ++ (opensT k ++ (X ++ (closes k ++ B))) = m at *
 have hml : m.length = A.length + (k + (X.length + (k + B.length))) := by rw [← hm]; simp only [List.length_append, List.length_replicate]
 rcases parens hXn hX16 k 16 B (Nat.le_refl _) hBi with ⟨h1, h2⟩ | ⟨e, h1, h2⟩
 · have h3 : rulesP m = .ok (r, []) := by
     have := hok (opensT k ++ (X ++ closes k)) (by rw [List.append_assoc, List.append_assoc]; exact h1)
     rw [List.append_assoc, List.append_assoc, hm] at this
     exact this
   refine .inl ⟨?_, h2⟩
   unfold readA
   rw [(rules_placed 0).1 h3]
 · have h3 : rulesP m = .error e := by
     have := herr (opensT k ++ (X ++ closes k)) e (by rw [List.append_assoc, List.append_assoc]; exact h1)
     rw [List.append_assoc, List.append_assoc, hm] at this
     exact this
   have hk : 0 < k := by
     rcases Nat.eq_zero_or_pos k with rfl | hk
     · exfalso
       have h4 : exprN 16 (opensT 0 ++ (X ++ (closes 0 ++ B))) = .ok (x, B) := hx
       rw [h4] at h1; cases h1
     · exact hk
   refine .inr ?_
   rw [List.length_append, List.length_replicate] at h2
   have hle := (lw_exprT 16).lenE h1
   simp only [List.length_append, List.length_replicate] at hle
   unfold readA
   cases hr2 : rulesP (placed 0 m) with
   | ok q =>
     obtain ⟨y, u⟩ := q
     obtain rfl := rules_all hr2
     rw [(rules_placed 0).2.1 hr2] at h3; cases h3
   | error e2 =>
     obtain ⟨e', he', hel⟩ := (rules_placed 0).2.2 hr2
     rw [h3] at he'
     injection he' with he'; subst he'
     cases e2 with
     | nil => rw [List.length_nil] at hel; omega
     | cons t e2 =>
       obtain ⟨c0, hc0, -⟩ := lw_rules.err hr2
       obtain ⟨hat, hle2⟩ := place_at (l := m) (e := e2) (t := t) ⟨c0, hc0⟩
       have hoff : ∀ (u v : List TokD) (j : Nat), j ≤ u.length → off (u ++ v) j = off u j := fun u v j hj => by unfold off; rw [List.take_append_of_le_length hj]
       refine ⟨off m (m.length - (t :: e2).length), by show (zeroR, t.at_, (130 : Int)) = _; rw [hat], ?_, ?_, hk⟩
       · have e1 := join_off A hA
         have e2' := hoff A (opensT k ++ (X ++ (closes k ++ B))) A.length (Nat.le_refl _)
         rw [hm] at e2'
         have e3 := off_mono m (i := A.length) (j := m.length - (t :: e2).length) (by omega)
         omega
       · have hinn : m = (A ++ (opensT k ++ X)) ++ (closes k ++ B) := by rw [← hm]; simp only [List.append_assoc]
         have hil : (A ++ (opensT k ++ X)).length = A.length + (k + X.length) := by simp only [List.length_append, List.length_replicate]
         generalize hinn' : A ++ (opensT k ++ X) = inn at hinn hil
         have hine : inn ≠ [] := by rintro rfl; rw [List.length_nil] at hil; have := List.length_pos_iff.2 hA; omega
         have hvi : Va inn := by rw [← hinn']; exact Zd3 hvA (Zd3 hvk hvX)
         generalize hj : m.length - (t :: e2).length = j
         have hji : j < inn.length := by omega
         have e1 := join_off inn hine
         have e2' : off m (j + 1) = off inn (j + 1) := by rw [hinn]; exact hoff _ _ _ (by omega)
         have e3 := off_mono inn (i := j + 1) (j := inn.length) (by omega)
         have e4 : off inn (j + 1) = off inn j + ((word inn[j]).length + 1) := by unfold off; rw [List.take_succ_eq_append_getElem hji, List.map_append, List.sum_append]; simp
         have e5 : off m j = off inn j := by rw [hinn]; exact hoff _ _ _ (by omega)
         have e6 := word_pos (hvi inn[j] (List.getElem_mem hji))
         omega
end Go.Sx
namespace Go.Sx
open Go.Lx Go.Fr
theorem two_cases (s : List UInt8) (hs : s.length ≤ 65536) : (∃ l r, lexF 0 s = .ok l ∧ (∀ t ∈ l, validB t = true) ∧ l.length ≤ s.length ∧ rulesP l = .ok (r, []) ∧ lexA s = (l, 0, 0) ∧ parseA s = (r, 0, 0)) ∨ (lexA s).2.2 ≠ 0 ∨ (parseA s).2.2 ≠ 0 := by
 rcases lexA_cases s hs with ⟨l, h1, h2⟩ | ⟨p, h1, h2⟩
 · cases hr : rulesP l with
   | ok q =>
     obtain ⟨r, u⟩ := q
     obtain rfl := rules_all hr
     refine .inl ⟨l, r, h1, lex_valid 0 s l h1, lex_cnt h1, hr, h2, ?_⟩
     unfold parseA readA
     rw [if_neg (by omega), h1]
     simp only [hr]
   | error e =>
     refine .inr (.inr ?_)
     unfold parseA readA
     rw [if_neg (by omega), h1]
     simp only [hr]
     decide
 · exact .inr (.inl (by rw [h2]; exact (by decide : (30 : Int) ≠ 0)))
end Go.Sx
namespace Go.Proofs.YthdldeenpgeemaaGreatDoor
open Go Go.RowKit Go.Kx Go.Fr Go.Lx Go.Sx
end Go.Proofs.YthdldeenpgeemaaGreatDoor
namespace Go.Sx
open Go.Lx Go.Fr
end Go.Sx
namespace Go.Proofs.YthdldeenpgeemaaGreatDoor
open Go Go.RowKit Go.Kx Go.Fr Go.Lx Go.Sx
end Go.Proofs.YthdldeenpgeemaaGreatDoor
namespace Go.Sx
open Go.Lx Go.Fr
theorem scanA_is {f g : Int} {t : TokD} (h : (t.text = wRound ∧ t.kind = 1 ∧ f = 0 ∧ g = -1) ∨ (¬ (t.text = wRound ∧ t.kind = 1 ∧ f = 0) ∧ g = f)) : g = scanA f t := by
 unfold scanA
 rcases h with ⟨h1, h2, h3, rfl⟩ | ⟨h1, rfl⟩
 · rw [if_pos ⟨h1, h2, h3⟩]
 · rw [if_neg h1]
theorem scanB_is {i : Nat} {f g : Int} {t : TokD} (h : (t.text = wScore ∧ t.kind = 1 ∧ f = -1 ∧ g = (i : Int) + 1) ∨ (¬ (t.text = wScore ∧ t.kind = 1 ∧ f = -1) ∧ g = f)) : g = scanB i f t := by
 unfold scanB
 rcases h with ⟨h1, h2, h3, rfl⟩ | ⟨h1, rfl⟩
 · rw [if_pos ⟨h1, h2, h3⟩]
 · rw [if_neg h1]
theorem scanC_is {i : Nat} {f u g : Int} {t : TokD} (h : ((t.text = sSemi ∨ t.text = wTie) ∧ 0 < f ∧ u = 0 ∧ g = (i : Int)) ∨ (¬ ((t.text = sSemi ∨ t.text = wTie) ∧ 0 < f ∧ u = 0) ∧ g = u)) : g = scanC i f u t := by
 unfold scanC
 rcases h with ⟨h1, h2, h3, rfl⟩ | ⟨h1, rfl⟩
 · rw [if_pos ⟨h1, h2, h3⟩]
 · rw [if_neg h1]
theorem scan_bnd : ∀ (l : List TokD) (i : Nat) (s : Int × Int), (-1 ≤ s.1 ∧ s.1 ≤ i) → (0 ≤ s.2 ∧ s.2 ≤ i) → (-1 ≤ (scanL i s l).1 ∧ (scanL i s l).1 ≤ (i + l.length : Nat)) ∧ (0 ≤ (scanL i s l).2 ∧ (scanL i s l).2 ≤ (i + l.length : Nat))
 | [], i, s, h1, h2 => ⟨⟨h1.1, h1.2⟩, h2⟩
 | t :: l, i, s, h1, h2 => by
   have := scan_bnd l (i + 1) (scanS i s t) (by
     unfold scanS scanB scanA; dsimp only; repeat' split
     all_goals omega) (by
     unfold scanS scanC; dsimp only; split
     all_goals omega)
   rw [scanL, List.length_cons]
   omega
end Go.Sx
namespace Go.Proofs.YthdldeenpgeemaaGreatDoor
open Go Go.RowKit Go.Kx Go.Fr Go.Lx Go.Sx
set_option maxHeartbeats 8000000 in
set_option maxRecDepth 100000 in
theorem syntaxBrackets_any (s : List UInt8) (n : UInt8) : FnC Tryz.prog 8 [exT s, exI .u8 (n.toNat : Int)] [Lab] (fun p loc => p = exB true ∧ loc = []) := by
 have hlx := lex3_any s
 have hpa := parse13_any s
 by_cases hgo : s.length ≤ 1000 ∧ (lexA s).2.2 = 0 ∧ (parseA s).2.2 = 0 ∧ (lexA s).1.length ≤ 1000 ∧ ∃ h : 0 < (parseA s).1.rounds.length, ((parseA s).1.rounds[0]).places = false
 · obtain ⟨hs, h0, h1, hl, hr0, hpl⟩ := hgo
   rcases two_cases s (by omega) with ⟨l, r, g1, hv, g3, g4, g5, g6⟩ | g | g
   · rw [g5] at hlx hl
     simp only [g6] at hr0 hpl
     rw [g6] at hpa
     unfold lexV at hlx
     unfold readR at hpa
     dsimp only at hlx hl hpa
     have hcons : r.rounds = r.rounds[0] :: r.rounds.tail := by
       generalize r.rounds = R at hr0
       cases R with
       | nil => exact absurd hr0 (by decide)
       | cons a R => rfl
     obtain ⟨A, X, B, hAXB, hA, hX, hscan, hbr⟩ := brackets_plain hv g4 hcons hpl
     refine Zbr Tryz.func8 rfl Tryz.ntmps8 rfl fun w0 F0 out => ?_
     (repeat' (first | (apply Zci 7; refine StopW.out ?_) | refine Za7 ?_ | refine Za1 ?_ | refine Za3 ?_ | (apply Za8; (first | exact Za2 rfl | exact Za5 rfl | exact Zb8 (b := false) rfl (fun e => by cases e) (fun _ => rfl) | exact Zbw rfl rfl | (apply Zai; exact Zcu rfl rfl) | (apply Zba; exact Zcr rfl rfl) | (apply g_un; exact Zcy rfl)); exact rfl) | (apply Zcn; exact rfl; exact rfl; exact rfl; (first | exact Za2 rfl | (apply Za9; first | exact Zau rfl rfl | exact Zah (k := 0) rfl rfl rfl rfl) | (apply Zam; first | exact Zad rfl rfl rfl | exact Zax rfl rfl rfl) | (apply Zai; first | exact Zc4 rfl rfl | exact Zca rfl rfl | exact Zcu rfl rfl) | (apply Zb3; exact Zb1 rfl rfl rfl) | (apply Zba; exact Zbq rfl rfl)); exact rfl) | refine Zan ?_ | refine Zb2 ?_ | refine Zb0 rfl ?_ | (apply Zac; exact rfl; first | (apply Zaf; first | (refine Zab (.dup 0 rfl rfl .nil) Tryz.func10 rfl sane13_any rfl ?_; rintro _ _ ⟨rfl, rfl⟩) | (refine Zab (.dup 0 rfl rfl .nil) Tryz.func17 rfl hlx rfl ?_; rintro _ _ ⟨rfl, rfl⟩) | (refine Zab (.dup 0 rfl rfl .nil) Tryz.func11 rfl hpa rfl ?_; rintro _ _ ⟨⟨k1, rfl⟩, rfl⟩)) | (apply Zbs; refine Zbh ?_; intro _) | (apply Zaz; refine Zao (k := 0) (l0 := []) rfl rfl rfl ?_)) | (refine Zby rfl rfl (fun hb => ?_) (fun hb => ?_) <;> (repeat (first | replace hb := Zas hb | replace hb := Zat hb)) <;> (try (exfalso; omega))) | (refine Zag rfl (fun hb => ?_) (fun hb => ?_) <;> (repeat (fail)) <;> (try (exfalso; fail)))))
     all_goals (try (exfalso; first | contradiction | omega | (have h9 : r.rounds[0].places = true := (by assumption); rw [hpl] at h9; cases h9)))
     refine ⟨?_⟩
     refine Zbc (Leads_fp (k := 0) (t := 8) rfl rfl) ?_
     refine Zbc (env' := [(5, isl eTok l), (8, fp (rulesV k1 r)), (1, exI .u8 (n.toNat : Int))]) (loc' := [Lab]) (Zaa (by repeat (first | exact Zaj | refine Zae rfl ?_)) (List.Sublist.refl _)) ?_
     (repeat' (first | refine Za7 ?_ | refine Za1 ?_ | refine Za3 ?_ | (apply Za8; (first | exact Za2 rfl | exact Za5 rfl | (apply Zba; exact Zbq rfl rfl)); exact rfl) | refine Zak ?_))
     refine Zck (fun z : Nat × Int × Int => ([(70, exI .i64 (z.1 : Int)), (11, exI .i64 z.2.1), (12, exI .i64 z.2.2), (68, isl eTok l), (69, exI .i64 l.length), (5, isl eTok l), (8, fp (rulesV k1 r)), (1, exI .u8 (n.toNat : Int))], [Lab])) (fun z => z.1 ≤ l.length ∧ z.2 = Sx.scanL 0 (0, 0) (l.take z.1)) (fun z => l.length - z.1) (0, 0, 0) ?_ ⟨Nat.zero_le _, rfl⟩ fun z hz => ?_
     · exact Zaa (by repeat (first | exact Zaj | refine Zae rfl ?_)) (List.Sublist.refl _)
     obtain ⟨i, f, u⟩ := z
     obtain ⟨hi, hfu⟩ := hz
     dsimp only at hi hfu
     by_cases hlt : i < l.length
     · have hst := Sx.scanL_take l i hlt
       rw [← hfu] at hst
       have hbd := scan_bnd (l.take i) 0 (0, 0) ⟨by decide, by decide⟩ ⟨by decide, by decide⟩
       rw [← hfu, List.length_take] at hbd
       dsimp only at hbd
       (repeat' (first | (apply Zci 11; refine StopW.out ?_) | refine Za7 ?_ | refine Za1 ?_ | refine Za3 ?_ | (apply Za8; (first | exact Za2 rfl | exact Za5 rfl | (apply Za9; exact WT_loadfa2 rfl rfl) | (apply Zai; exact Zbg rfl rfl) | (apply Zb3; exact Zb1 rfl rfl rfl)); exact rfl) | refine Zak ?_ | refine Zan ?_ | (apply Zac; exact rfl; first | (apply Zbs; refine Zbh ?_; intro _) | (apply Zaz; refine Zao (k := 0) (l0 := []) rfl rfl rfl ?_)) | (refine Zag rfl (fun hb => ?_) (fun hb => ?_) <;> (repeat (first | replace hb := Zas hb | replace hb := Zat hb)) <;> (try (exfalso; omega)))))
       refine ⟨?_⟩
       refine Zbc (Leads_fp (k := 0) (t := 14) rfl rfl) ?_
       refine Zbc (env' := [(11, exI .i64 f), (12, exI .i64 u), (14, fp (tokV l[i])), (13, exI .i64 (i : Int)), (70, exI .i64 (i : Int)), (68, isl eTok l), (69, exI .i64 l.length), (5, isl eTok l), (8, fp (rulesV k1 r)), (1, exI .u8 (n.toNat : Int))]) (loc' := [Lab]) (Zaa (by repeat (first | exact Zaj | refine Zae rfl ?_)) (List.Sublist.refl _)) ?_
       generalize l[i] = t at hst
       refine Zdj (fun xx : Int => ([(11, exI .i64 xx), (12, exI .i64 u), (14, fp (tokV t)), (13, exI .i64 (i : Int)), (70, exI .i64 (i : Int)), (68, isl eTok l), (69, exI .i64 l.length), (5, isl eTok l), (8, fp (rulesV k1 r)), (1, exI .u8 (n.toNat : Int))], [Lab])) (fun xx => xx = Sx.scanA f t) ?_ fun g hg => ?_
       · (repeat' (first | refine Za7 ?_ | refine Za1 ?_ | refine Za3 ?_ | (apply Za8; (first | exact Za2 rfl | exact Za5 rfl | exact Zb8 (b := true) rfl (fun _ => rfl) (fun e => by cases e) | exact Zb8 (b := false) rfl (fun e => by cases e) (fun _ => rfl) | (apply Za9; exact Zau rfl rfl) | (apply Zam; exact Zax rfl rfl rfl) | (apply Zai; exact Zdr rfl rfl)); exact rfl) | (refine Zco rfl rfl rfl rfl rfl ?_) | (apply Zcn; exact rfl; exact rfl; exact rfl; (first | exact Za2 rfl | (apply Za9; exact Zau rfl rfl) | (apply Zam; exact Zax rfl rfl rfl) | (apply Zai; exact Zc4 rfl rfl)); exact rfl) | refine Zan ?_ | refine Zb0 rfl ?_ | (refine Zby rfl rfl (fun hb => ?_) (fun hb => ?_) <;> (repeat (first | replace hb := Zas hb | replace hb := Zat hb)) <;> (try (exfalso; fail))) | (refine Zag rfl (fun hb => ?_) (fun hb => ?_) <;> (repeat (first | replace hb := Zas hb | replace hb := Zat hb)) <;> (try (exfalso; fail)))))
         all_goals (try (exfalso; first | contradiction | omega))
         all_goals (refine Zch (Q := fun _ _ _ => True) _ ?_ (Zaa (by repeat (first | exact Zaj | refine Zae rfl ?_)) (List.Sublist.refl _)))
         all_goals (refine scanA_is ?_)
         all_goals (first  | exact .inl ⟨by assumption, by assumption, by assumption, rfl⟩ | exact .inr ⟨(by rintro ⟨h1, h2, h3⟩; first | contradiction | omega | (rcases h1 with h1 | h1 <;> contradiction)), rfl⟩)
       dsimp only
       (repeat' (first | (apply Zci 13; refine StopW.out ?_) | refine Za7 ?_))
       refine ⟨?_⟩
       refine Zdj (fun xx : Int => ([(11, exI .i64 xx), (12, exI .i64 u), (14, fp (tokV t)), (13, exI .i64 (i : Int)), (70, exI .i64 (i : Int)), (68, isl eTok l), (69, exI .i64 l.length), (5, isl eTok l), (8, fp (rulesV k1 r)), (1, exI .u8 (n.toNat : Int))], [Lab])) (fun xx => xx = Sx.scanB i g t) ?_ fun g2 hg2 => ?_
       · (repeat' (first | refine Za7 ?_ | refine Za1 ?_ | refine Za3 ?_ | (apply Za8; (first | exact Za2 rfl | exact Za5 rfl | exact Zb8 (b := true) rfl (fun _ => rfl) (fun e => by cases e) | exact Zb8 (b := false) rfl (fun e => by cases e) (fun _ => rfl) | (apply Za9; exact Zau rfl rfl) | (apply Zam; exact Zax rfl rfl rfl) | (apply Zai; first | exact Zdr rfl rfl | exact Zbz rfl rfl)); exact rfl) | (refine Zco rfl rfl rfl rfl rfl ?_) | (apply Zcn; exact rfl; exact rfl; exact rfl; (first | exact Za2 rfl | (apply Za9; exact Zau rfl rfl) | (apply Zam; exact Zax rfl rfl rfl) | (apply Zai; exact Zc4 rfl rfl)); exact rfl) | refine Zan ?_ | refine Zb0 rfl ?_ | (refine Zby rfl rfl (fun hb => ?_) (fun hb => ?_) <;> (repeat (first | replace hb := Zas hb | replace hb := Zat hb)) <;> (try (exfalso; fail))) | (refine Zag rfl (fun hb => ?_) (fun hb => ?_) <;> (repeat (first | replace hb := Zas hb | replace hb := Zat hb)) <;> (try (exfalso; fail)))))
         all_goals (try (exfalso; first | contradiction | omega))
         all_goals (refine Zch (Q := fun _ _ _ => True) _ ?_ (Zaa (by repeat (first | exact Zaj | refine Zae rfl ?_)) (List.Sublist.refl _)))
         all_goals (refine scanB_is ?_)
         all_goals (first  | exact .inl ⟨by assumption, by assumption, by assumption, rfl⟩ | exact .inr ⟨(by rintro ⟨h1, h2, h3⟩; first | contradiction | omega | (rcases h1 with h1 | h1 <;> contradiction)), rfl⟩)
       dsimp only
       (repeat' (first | (apply Zci 15; refine StopW.out ?_)))
       refine ⟨?_⟩
       refine Zdj (fun xx : Int => ([(12, exI .i64 xx), (11, exI .i64 g2), (14, fp (tokV t)), (13, exI .i64 (i : Int)), (70, exI .i64 (i : Int)), (68, isl eTok l), (69, exI .i64 l.length), (5, isl eTok l), (8, fp (rulesV k1 r)), (1, exI .u8 (n.toNat : Int))], [Lab])) (fun xx => xx = Sx.scanC i g2 u t) ?_ fun u2 hu2 => ?_
       · (repeat' (first | refine Za7 ?_ | refine Za1 ?_ | refine Za3 ?_ | (apply Za8; (first | exact Za2 rfl | exact Za5 rfl | exact Zb8 (b := true) rfl (fun _ => rfl) (fun e => by cases e) | exact Zb8 (b := false) rfl (fun e => by cases e) (fun _ => rfl) | (apply Za9; exact Zau rfl rfl) | (apply Zam; exact Zax rfl rfl rfl) | (apply Zai; exact Zdr rfl rfl)); exact rfl) | (refine Zco rfl rfl rfl rfl rfl ?_) | (apply Zcn; exact rfl; exact rfl; exact rfl; (first | exact Za2 rfl | (apply Za9; exact Zau rfl rfl) | (apply Zam; exact Zax rfl rfl rfl) | (apply Zai; first | exact Zdr rfl rfl | exact Zc4 rfl rfl | exact Zcu rfl rfl)); exact rfl) | refine Zan ?_ | refine Zb0 rfl ?_ | (refine Zby rfl rfl (fun hb => ?_) (fun hb => ?_) <;> (repeat (first | replace hb := Zas hb | replace hb := Zat hb)) <;> (try (exfalso; fail))) | (refine Zag rfl (fun hb => ?_) (fun hb => ?_) <;> (repeat (first | replace hb := Zas hb | replace hb := Zat hb)) <;> (try (exfalso; fail)))))
         all_goals (try (exfalso; first | contradiction | omega))
         all_goals (refine Zch (Q := fun _ _ _ => True) _ ?_ (Zaa (by repeat (first | exact Zaj | refine Zae rfl ?_)) (List.Sublist.refl _)))
         all_goals (refine scanC_is ?_)
         all_goals (first  | exact .inl ⟨.inl (by assumption), by assumption, by assumption, rfl⟩ | exact .inl ⟨.inr (by assumption), by assumption, by assumption, rfl⟩ | exact .inr ⟨(by rintro ⟨h1, h2, h3⟩; first | contradiction | omega | (rcases h1 with h1 | h1 <;> contradiction)), rfl⟩)
       dsimp only
       (repeat' (first | refine Za1 ?_ | refine Za3 ?_ | (apply Za8; (first | exact Za2 rfl | (apply Zai; first | exact Zbz rfl rfl)); exact rfl)))
       exact ⟨(i + 1, g2, u2), ⟨by show i + 1 ≤ l.length; omega, by show (g2, u2) = Sx.scanL 0 (0, 0) (l.take (i + 1)); rw [hst, hu2, hg2, hg]; rfl⟩, by show l.length - (i + 1) < l.length - i; omega, Zaa (by repeat (first | exact Zaj | refine Zae rfl ?_)) (List.Sublist.refl _)⟩
     · (repeat' (first | (apply Zci 18; refine StopW.out ?_) | refine Za7 ?_ | refine Za1 ?_ | refine Za3 ?_ | (apply Za8; ((apply Zai; exact Zbg rfl rfl)); exact rfl) | refine Zcf ?_ | (refine Zag rfl (fun hb => ?_) (fun hb => ?_) <;> (repeat (first | replace hb := Zas hb | replace hb := Zat hb)) <;> (try (exfalso; omega)))))
       refine ⟨?_⟩
       have hq : i = l.length := by omega
       subst hq
       rw [List.take_length, hscan] at hfu
       injection hfu with hf hu
       subst hf hu
       have hXl : 0 < X.length := List.length_pos_iff.2 hX
       have hAl : 0 < A.length := List.length_pos_iff.2 hA
       have hk : n.toNat % 21 < 21 := Nat.mod_lt _ (by decide)
       refine Zbc (env' := [(11, exI .i64 (A.length : Int)), (12, exI .i64 ((A.length + X.length : Nat) : Int)), (5, isl eTok l), (8, fp (rulesV k1 r)), (1, exI .u8 (n.toNat : Int))]) (loc' := [Lab]) (Zaa (by repeat (first | exact Zaj | refine Zae rfl ?_)) (List.Sublist.refl _)) ?_
       (repeat' (first | (apply Zci 22; refine StopW.out ?_) | refine Za7 ?_ | refine Za1 ?_ | refine Za3 ?_ | (apply Za8; (first | exact Za2 rfl | exact Za5 rfl | exact Zb8 (b := false) rfl (fun e => by cases e) (fun _ => rfl) | (apply Zai; first | exact WT_leq rfl rfl | exact WT_rem rfl rfl) | (apply g_conv; exact WT_convb rfl rfl rfl)); exact rfl) | (apply Zcn; exact rfl; exact rfl; exact rfl; (first | exact Za2 rfl | (apply Zai; exact WT_leq rfl rfl)); exact rfl) | refine Zan ?_ | (refine Zby rfl rfl (fun hb => ?_) (fun hb => ?_) <;> (repeat (first | replace hb := Zas hb | replace hb := Zat hb)) <;> (try (exfalso; omega))) | (refine Zag rfl (fun hb => ?_) (fun hb => ?_) <;> (repeat (first | replace hb := Zas hb | replace hb := Zat hb)) <;> (try (exfalso; omega)))))
       all_goals (try (exfalso; first | contradiction | omega))
       refine ⟨?_⟩
       refine Zbc (env' := [(16, ex (.slice none 0 0)), (11, exI .i64 (A.length : Int)), (12, exI .i64 ((A.length + X.length : Nat) : Int)), (15, exI .i64 ((n.toNat % 21 : Nat) : Int)), (5, isl eTok l), (8, fp (rulesV k1 r))]) (loc' := [Lab]) (Zaa (by repeat (first | exact Zaj | refine Zae rfl ?_)) (List.Sublist.refl _)) ?_
       generalize n.toNat % 21 = k at hk ⊢
       have hlA : l.take A.length = A := by rw [hAXB, List.take_left]
       have hlX : (l.take (A.length + X.length)).drop A.length = X := by rw [hAXB, ← List.append_assoc, List.take_left' (by rw [List.length_append]), List.drop_left]
       have hlB : l.drop (A.length + X.length) = B := by rw [hAXB, ← List.append_assoc, List.drop_left' (by rw [List.length_append])]
       have hll : l.length = A.length + (X.length + B.length) := by rw [hAXB, List.length_append, List.length_append]
       (repeat' (first | (apply Zci 23; refine StopW.out ?_) | refine Za7 ?_ | refine Za1 ?_ | refine Za3 ?_ | (apply Za8; (first | exact Za2 rfl | exact Za5 rfl | (apply g_slice; exact WT_slch rfl rfl rfl)); exact rfl) | (apply Zac; exact rfl; (apply Zd9; ((refine WO_append_nil rfl (by exact Src_isl rfl) rfl ?_)); intro _))))
       refine ⟨?_⟩
       rename_i v1
       refine Zbc (env' := [(16, ex v1), (11, exI .i64 (A.length : Int)), (12, exI .i64 ((A.length + X.length : Nat) : Int)), (15, exI .i64 (k : Int)), (5, isl eTok l), (8, fp (rulesV k1 r))]) (loc' := [vec v1 40 4 (A).length ((A).flatMap tokV), Lab]) (Zaa (by repeat (first | exact Zaj | refine Zae rfl ?_)) (by rw [hlA]; first | exact List.Sublist.refl _ | (rw [Nat.zero_add, List.nil_append]; exact List.Sublist.refl _))) ?_
       (repeat' (first | refine Za7 ?_ | refine Za1 ?_ | refine Za3 ?_ | (apply Za8; (first | exact Za2 rfl); exact rfl) | refine Zak ?_))
       refine Zck (fun z : Nat × Value => ([(135, exI .i64 (z.1 : Int)), (134, exI .i64 (k : Int)), (16, ex z.2), (11, exI .i64 (A.length : Int)), (12, exI .i64 ((A.length + X.length : Nat) : Int)), (15, exI .i64 (k : Int)), (5, isl eTok l), (8, fp (rulesV k1 r))], [vec z.2 40 4 (A ++ opensT z.1).length ((A ++ opensT z.1).flatMap tokV), Lab])) (fun z => z.1 ≤ k) (fun z => k - z.1) (0, v1) ?_ (Nat.zero_le _) fun z hz => ?_
       · exact Zaa (by repeat (first | exact Zaj | refine Zae rfl ?_)) (by show List.Sublist [vec v1 40 4 (A ++ []).length ((A ++ []).flatMap tokV), Lab] _; rw [List.append_nil]; exact List.Sublist.refl _)
       obtain ⟨j, v2⟩ := z
       dsimp only at hz
       by_cases hj : j < k
       · have hln : (A ++ opensT j).length = A.length + j := by rw [List.length_append, List.length_replicate]
         (repeat' (first | refine Za7 ?_ | refine Za1 ?_ | refine Za3 ?_ | (apply Za8; (first | exact Za2 rfl | exact Za5 rfl | (apply Zai; first | exact Zbg rfl rfl | exact Zbz rfl rfl) | (apply Zcz; exact Zcg rfl rfl (by repeat (first | exact PartsO.nil | (apply PartsO.cons; exact rfl; exact inferInstance; exact rfl; exact rfl))))); exact rfl) | refine Zak ?_ | refine Zan ?_ | (apply Zac; exact rfl; first | (apply Zd9; ((refine Zd4 (k := 1) (l0 := []) rfl rfl (by exact Src_rowW (k := 0) rfl rfl) rfl ?_)); intro _) | (apply Zb6; (refine Zbf rfl rfl ?_); intro _)) | (refine Zag rfl (fun hb => ?_) (fun hb => ?_) <;> (repeat (first | replace hb := Zas hb | replace hb := Zat hb)) <;> (try (exfalso; omega)))))
         all_goals (try (exfalso; first | contradiction | omega))
         exact ⟨(j + 1, _), by show j + 1 ≤ k; omega, by show k - (j + 1) < k - j; omega, Zaa (by repeat (first | exact Zaj | refine Zae rfl ?_)) (by rw [show opensT (j + 1) = opensT j ++ [tkS sOpen] from List.replicate_succ', ← List.append_assoc, List.flatMap_append, List.length_append]; exact List.Sublist.cons _ (List.Sublist.refl _))⟩
       (repeat' (first | (apply Zci 27; refine StopW.out ?_) | refine Za7 ?_ | refine Za1 ?_ | refine Za3 ?_ | (apply Za8; ((apply Zai; exact Zbg rfl rfl)); exact rfl) | refine Zcf ?_ | (refine Zag rfl (fun hb => ?_) (fun hb => ?_) <;> (repeat (first | replace hb := Zas hb | replace hb := Zat hb)) <;> (try (exfalso; omega)))))
       all_goals (try (exfalso; first | contradiction | omega))
       refine ⟨?_⟩
       have hjk : j = k := by omega
       subst hjk
       have hln : (A ++ opensT j).length = A.length + j := by rw [List.length_append, List.length_replicate]
       (repeat' (first | (apply Zci 28; refine StopW.out ?_) | refine Za7 ?_ | refine Za1 ?_ | refine Za3 ?_ | (apply Za8; (first | exact Za2 rfl | exact Za5 rfl | (apply g_slice; exact WT_slc rfl rfl rfl rfl)); exact rfl) | (apply Zac; exact rfl; (apply Zd9; ((refine Zd4 (k := 0) (l0 := []) rfl rfl (by exact Src_isl rfl) rfl ?_)); intro _))))
       refine ⟨?_⟩
       rename_i v3
       refine Zbc (env' := [(16, ex v3), (11, exI .i64 (A.length : Int)), (12, exI .i64 ((A.length + X.length : Nat) : Int)), (15, exI .i64 (j : Int)), (5, isl eTok l), (8, fp (rulesV k1 r))]) (loc' := [vec v3 40 4 (A ++ opensT j ++ X).length ((A ++ opensT j ++ X).flatMap tokV), Lab]) (Zaa (by repeat (first | exact Zaj | refine Zae rfl ?_)) (by rw [hlX, ← List.flatMap_append, @List.length_append _ (A ++ opensT j) X]; exact List.Sublist.refl _)) ?_
       generalize hP : A ++ opensT j ++ X = P
       have hPl : P.length = A.length + j + X.length := by rw [← hP, List.length_append, hln]
       (repeat' (first | refine Za7 ?_ | refine Za1 ?_ | refine Za3 ?_ | (apply Za8; (first | exact Za2 rfl); exact rfl) | refine Zak ?_))
       refine Zck (fun z : Nat × Value => ([(149, exI .i64 (z.1 : Int)), (148, exI .i64 (j : Int)), (16, ex z.2), (11, exI .i64 (A.length : Int)), (12, exI .i64 ((A.length + X.length : Nat) : Int)), (15, exI .i64 (j : Int)), (5, isl eTok l), (8, fp (rulesV k1 r))], [vec z.2 40 4 (P ++ closes z.1).length ((P ++ closes z.1).flatMap tokV), Lab])) (fun z => z.1 ≤ j) (fun z => j - z.1) (0, v3) ?_ (Nat.zero_le _) fun z hz => ?_
       · exact Zaa (by repeat (first | exact Zaj | refine Zae rfl ?_)) (by show List.Sublist [vec v3 40 4 (P ++ []).length ((P ++ []).flatMap tokV), Lab] _; rw [List.append_nil]; exact List.Sublist.refl _)
       obtain ⟨j2, v4⟩ := z
       dsimp only at hz
       by_cases hj2 : j2 < j
       · have hln2 : (P ++ closes j2).length = P.length + j2 := by rw [List.length_append, List.length_replicate]
         (repeat' (first | refine Za7 ?_ | refine Za1 ?_ | refine Za3 ?_ | (apply Za8; (first | exact Za2 rfl | exact Za5 rfl | (apply Zai; first | exact Zbg rfl rfl | exact Zbz rfl rfl) | (apply Zcz; exact Zcg rfl rfl (by repeat (first | exact PartsO.nil | (apply PartsO.cons; exact rfl; exact inferInstance; exact rfl; exact rfl))))); exact rfl) | refine Zak ?_ | refine Zan ?_ | (apply Zac; exact rfl; first | (apply Zd9; ((refine Zd4 (k := 1) (l0 := []) rfl rfl (by exact Src_rowW (k := 0) rfl rfl) rfl ?_)); intro _) | (apply Zb6; (refine Zbf rfl rfl ?_); intro _)) | (refine Zag rfl (fun hb => ?_) (fun hb => ?_) <;> (repeat (first | replace hb := Zas hb | replace hb := Zat hb)) <;> (try (exfalso; omega)))))
         all_goals (try (exfalso; first | contradiction | omega))
         exact ⟨(j2 + 1, _), by show j2 + 1 ≤ j; omega, by show j - (j2 + 1) < j - j2; omega, Zaa (by repeat (first | exact Zaj | refine Zae rfl ?_)) (by rw [show closes (j2 + 1) = closes j2 ++ [tkS sClose] from List.replicate_succ', ← List.append_assoc, List.flatMap_append, List.length_append]; exact List.Sublist.cons _ (List.Sublist.refl _))⟩
       (repeat' (first | (apply Zci 32; refine StopW.out ?_) | refine Za7 ?_ | refine Za1 ?_ | refine Za3 ?_ | (apply Za8; ((apply Zai; exact Zbg rfl rfl)); exact rfl) | refine Zcf ?_ | (refine Zag rfl (fun hb => ?_) (fun hb => ?_) <;> (repeat (first | replace hb := Zas hb | replace hb := Zat hb)) <;> (try (exfalso; omega)))))
       all_goals (try (exfalso; first | contradiction | omega))
       refine ⟨?_⟩
       have hjk : j2 = j := by omega
       subst hjk
       have hln2 : (P ++ closes j2).length = P.length + j2 := by rw [List.length_append, List.length_replicate]
       (repeat' (first | (apply Zci 33; refine StopW.out ?_) | refine Za7 ?_ | refine Za1 ?_ | refine Za3 ?_ | (apply Za8; (first | exact Za2 rfl | exact Za5 rfl | (apply g_slice; exact WT_slcl rfl rfl rfl)); exact rfl) | (apply Zac; exact rfl; (apply Zd9; ((refine Zd4 (k := 0) (l0 := []) rfl rfl (by exact Src_isl rfl) rfl ?_)); intro _))))
       refine ⟨?_⟩
       rename_i v5
       refine Zbc (env' := [(16, ex v5), (11, exI .i64 (A.length : Int)), (12, exI .i64 ((A.length + X.length : Nat) : Int)), (15, exI .i64 (j2 : Int)), (5, isl eTok l), (8, fp (rulesV k1 r))]) (loc' := [vec v5 40 4 (P ++ closes j2 ++ B).length ((P ++ closes j2 ++ B).flatMap tokV), Lab]) (Zaa (by repeat (first | exact Zaj | refine Zae rfl ?_)) (by rw [hlB, ← List.flatMap_append, @List.length_append _ (P ++ closes j2) B]; exact List.Sublist.refl _)) ?_
       have hbm := hbr j2 _ rfl
       have hm : A ++ (opensT j2 ++ (X ++ (closes j2 ++ B))) = P ++ closes j2 ++ B := by rw [← hP]; simp only [List.append_assoc]
       rw [hm] at hbm
       have hml : (P ++ closes j2 ++ B).length = A.length + j2 + X.length + j2 + B.length := by rw [List.length_append, hln2, hPl]
       have hmA : (P ++ closes j2 ++ B).take A.length = A := by rw [← hm, List.take_left]
       have hmI : (P ++ closes j2 ++ B).take (A.length + (j2 + X.length)) = A ++ (opensT j2 ++ X) := by
         rw [← hm, ← List.append_assoc (opensT j2), ← List.append_assoc A, List.take_left' (by simp only [List.length_append, List.length_replicate])]
       have hvm : ∀ t ∈ P ++ closes j2 ++ B, validB t = true := by
         rw [← hm]
         have hvA : ∀ t ∈ A, validB t = true := fun t ht => hv t (by rw [hAXB]; exact List.mem_append_left _ ht)
         have hvX : ∀ t ∈ X, validB t = true := fun t ht => hv t (by rw [hAXB]; exact List.mem_append_right _ (List.mem_append_left _ ht))
         have hvB : ∀ t ∈ B, validB t = true := fun t ht => hv t (by rw [hAXB]; exact List.mem_append_right _ (List.mem_append_right _ ht))
         have hvo : ∀ t ∈ opensT j2, validB t = true := fun t ht => by rw [List.eq_of_mem_replicate ht]; decide
         have hvc : ∀ t ∈ closes j2, validB t = true := fun t ht => by rw [List.eq_of_mem_replicate ht]; decide
         exact Zd3 hvA (Zd3 hvo (Zd3 hvX (Zd3 hvc hvB)))
       refine Zbc (Leads_fvec (k := 0) (E := eTok) (t := 16) (P ++ closes j2 ++ B) rfl rfl rfl rfl (hby := by show _ * 40 ≤ _; omega)) ?_
       generalize hM : P ++ closes j2 ++ B = m at *
       refine Zbc (env' := [(16, isl eTok m), (11, exI .i64 (A.length : Int)), (12, exI .i64 ((A.length + X.length : Nat) : Int)), (15, exI .i64 (j2 : Int)), (5, isl eTok l), (8, fp (rulesV k1 r))]) (loc' := [Lab]) (Zaa (by repeat (first | exact Zaj | refine Zae rfl ?_)) (List.Sublist.refl _)) ?_
       have hva : ∀ t ∈ m.take A.length, validB t = true := fun t ht => hvm t (List.mem_of_mem_take ht)
       have hvi : ∀ t ∈ m.take (A.length + (j2 + X.length)), validB t = true := fun t ht => hvm t (List.mem_of_mem_take ht)
       have htx := text3_any m
       rw [textA_yes hvm] at htx
       have ht1 := text3_any (m.take A.length)
       rw [textA_yes hva] at ht1
       have ht2 := text3_any (m.take (A.length + (j2 + X.length)))
       rw [textA_yes hvi] at ht2
       unfold textV at htx ht1 ht2
       dsimp only at htx ht1 ht2
       rw [show joinF ((A ++ (opensT j2 ++ X)).map word) = joinF ((m.take (A.length + (j2 + X.length))).map word) by rw [hmI], show joinF (A.map word) = joinF ((m.take A.length).map word) by rw [hmA]] at hbm
       have hpb := parse13_any (joinF (m.map word))
       have hNi : Nt ((A.length : Int) + (j2 : Int) + ((A.length + X.length : Nat) : Int) - (A.length : Int)) (A.length + (j2 + X.length)) := ⟨by omega⟩
       generalize hJ : joinF (m.map word) = J at *
       generalize hI1 : joinF ((m.take A.length).map word) = I1 at *
       generalize hI2 : joinF ((m.take (A.length + (j2 + X.length))).map word) = I2 at *
       by_cases hjm : J.length ≤ 65536
       · have hpj := parse_join hvm (by rw [hJ]; exact hjm)
         rw [hJ] at hpj
         rw [hpj] at hpb
         rcases hbm with ⟨hy, hk16⟩ | ⟨at_, hy, hy1, hy2, hy3⟩
         · rw [hy] at hpb
           unfold readR at hpb
           dsimp only at hpb
           (repeat' (first | refine Za7 ?_ | refine Za1 ?_ | refine Za3 ?_ | (apply Za8; (first | exact Za2 rfl | exact Za5 rfl | exact Zb8 (b := true) rfl (fun _ => rfl) (fun e => by cases e) | exact Zb8 (b := false) rfl (fun e => by cases e) (fun _ => rfl) | exact Zbw rfl rfl | (apply Zai; first | exact Zc4 rfl rfl | exact Zca rfl rfl)); exact rfl) | (apply Zcn; exact rfl; exact rfl; exact rfl; (first | exact Za2 rfl | (apply Za9; first | exact Zb4 rfl rfl | exact Zbm (k := 0) rfl rfl rfl) | (apply Zai; first | exact Zcu rfl rfl | exact WT_leq rfl rfl) | (apply Zba; exact Zcr rfl rfl)); exact rfl) | refine Zan ?_ | refine Zb2 ?_ | refine Zaw rfl ?_ | (apply Zac; exact rfl; first | (apply Zaf; first | (refine Zab (.dup 0 rfl rfl .nil) Tryz.func19 rfl htx rfl ?_; rintro _ _ ⟨rfl, rfl⟩) | (refine Zab (.dup 0 rfl rfl .nil) Tryz.func11 rfl hpb rfl ?_; rintro _ _ ⟨⟨k2, rfl⟩, rfl⟩)) | (apply Zbs; refine Zbh ?_; intro _) | (apply Zaz; refine Zao (k := 0) (l0 := []) rfl rfl rfl ?_)) | (apply Zdh; exact rfl; exact rfl; exact rfl; exact rfl; (apply Zaf; (refine Zbl Tryz.func13 rfl (rsame13_any _ _ _ _) rfl ?_; rintro _ _ ⟨rfl, rfl⟩))) | (refine Zby rfl rfl (fun hb => ?_) (fun hb => ?_) <;> (repeat (first | replace hb := Zas hb | replace hb := Zat hb)) <;> (try (exfalso; contradiction))) | (refine Zag rfl (fun hb => ?_) (fun hb => ?_) <;> (repeat (first | replace hb := Zas hb | replace hb := Zat hb)) <;> (try (exfalso; omega)))))
           all_goals (try (exfalso; first | contradiction | omega))
           all_goals (refine ⟨.inr rfl, ret1 rfl (.tmp rfl) (List.nil_sublist _) ⟨congrArg exB ?_, rfl⟩⟩)
           all_goals (first | rfl | (simp; done) | (simp; omega))
         · rw [hy] at hpb
           unfold readR at hpb
           dsimp only at hpb
           (repeat' (first | refine Za7 ?_ | refine Za1 ?_ | refine Za3 ?_ | (apply Za8; (first | exact Za2 rfl | exact Za5 rfl | exact Zb8 (b := true) rfl (fun _ => rfl) (fun e => by cases e) | exact Zb8 (b := false) rfl (fun e => by cases e) (fun _ => rfl) | exact Zbw rfl rfl | (apply Zai; first | exact Zc4 rfl rfl | exact Zca rfl rfl | exact Zbz rfl rfl | exact WT_sub rfl rfl) | (apply g_slice; exact WT_slch rfl rfl rfl)); exact rfl) | (apply Zcn; exact rfl; exact rfl; exact rfl; (first | exact Za2 rfl | (apply Zai; first | exact Zbg rfl rfl | exact Zc4 rfl rfl | exact Zcu rfl rfl) | (apply Zba; exact Zcr rfl rfl)); exact rfl) | refine Zan ?_ | refine Zb2 ?_ | refine Zb0 rfl ?_ | (apply Zac; exact rfl; first | (apply Zaf; first | (refine Zab (.dup 0 rfl rfl .nil) Tryz.func19 rfl htx rfl ?_; rintro _ _ ⟨rfl, rfl⟩) | (refine Zab (.dup 0 rfl rfl .nil) Tryz.func11 rfl hpb rfl ?_; rintro _ _ ⟨⟨k2, rfl⟩, rfl⟩) | (refine Zab (.dup 1 rfl rfl .nil) Tryz.func19 rfl ht1 rfl ?_; rintro _ _ ⟨rfl, rfl⟩) | (refine Zab (.dup 1 rfl rfl .nil) Tryz.func19 rfl ht2 rfl ?_; rintro _ _ ⟨rfl, rfl⟩)) | (apply Zbs; refine Zbh ?_; intro _) | (apply Zaz; refine Zao (k := 0) (l0 := []) rfl rfl rfl ?_)) | (refine Zby rfl rfl (fun hb => ?_) (fun hb => ?_) <;> (repeat (first | replace hb := Zas hb | replace hb := Zat hb)) <;> (try (exfalso; omega))) | (refine Zag rfl (fun hb => ?_) (fun hb => ?_) <;> (repeat (first | replace hb := Zas hb | replace hb := Zat hb)) <;> (try (exfalso; omega)))))
           all_goals (try (exfalso; first | contradiction | omega))
           all_goals (refine ⟨.inr rfl, ret1 rfl (.tmp rfl) (List.nil_sublist _) ⟨congrArg exB ?_, rfl⟩⟩)
           all_goals (first | rfl | (simp; done) | (simp; omega))
       · (repeat' (first | refine Za7 ?_ | refine Za1 ?_ | refine Za3 ?_ | (apply Za8; (first | exact Za2 rfl | exact Za5 rfl | exact Zb8 (b := false) rfl (fun e => by cases e) (fun _ => rfl) | exact Zbw rfl rfl | (apply Zai; first | exact Zc4 rfl rfl | exact Zca rfl rfl)); exact rfl) | (apply Zcn; exact rfl; exact rfl; exact rfl; (first | exact Za2 rfl | (apply Zai; exact Zcu rfl rfl) | (apply Zba; exact Zcr rfl rfl)); exact rfl) | refine Zb2 ?_ | (apply Zac; exact rfl; (apply Zaf; (refine Zab (.dup 0 rfl rfl .nil) Tryz.func19 rfl htx rfl ?_; rintro _ _ ⟨rfl, rfl⟩))) | (refine Zag rfl (fun hb => ?_) (fun hb => ?_) <;> (repeat (first | replace hb := Zas hb | replace hb := Zat hb)) <;> (try (exfalso; omega)))))
         all_goals (try (exfalso; first | contradiction | omega))
         all_goals (refine ⟨.inr rfl, ret1 rfl (.tmp rfl) (List.nil_sublist _) ⟨congrArg exB ?_, rfl⟩⟩)
         all_goals (first | rfl | (simp; done))
   · exact absurd h0 g
   · exact absurd h1 g
 · generalize lexA s = z at hlx hgo
   obtain ⟨l, i, e⟩ := z
   unfold lexV at hlx
   dsimp only at hlx hgo
   generalize parseA s = z2 at hpa hgo
   obtain ⟨r, at_, e2⟩ := z2
   unfold readR at hpa
   dsimp only at hgo hpa
   refine Zbr Tryz.func8 rfl Tryz.ntmps8 rfl fun w0 F0 out => ?_
   (repeat' (first | (apply Zci 7; refine StopW.out ?_) | refine Za7 ?_ | refine Za1 ?_ | refine Za3 ?_ | (apply Za8; (first | exact Za2 rfl | exact Za5 rfl | exact Zb8 (b := true) rfl (fun _ => rfl) (fun e => by cases e) | exact Zb8 (b := false) rfl (fun e => by cases e) (fun _ => rfl) | exact Zbw rfl rfl | (apply Zai; exact Zcu rfl rfl) | (apply Zba; exact Zcr rfl rfl) | (apply g_un; exact Zcy rfl)); exact rfl) | (refine Zco rfl rfl rfl rfl rfl ?_) | (apply Zcn; exact rfl; exact rfl; exact rfl; (first | exact Za2 rfl | (apply Za9; first | exact Zau rfl rfl | exact Zah (k := 0) rfl rfl rfl rfl) | (apply Zam; first | exact Zad rfl rfl rfl | exact Zax rfl rfl rfl) | (apply Zai; first | exact Zc4 rfl rfl | exact Zca rfl rfl | exact Zcu rfl rfl) | (apply Zb3; exact Zb1 rfl rfl rfl) | (apply Zba; exact Zbq rfl rfl)); exact rfl) | refine Zan ?_ | refine Zb2 ?_ | refine Zaw rfl ?_ | refine Zb0 rfl ?_ | (apply Zac; exact rfl; first | (apply Zaf; first | (refine Zab (.dup 0 rfl rfl .nil) Tryz.func10 rfl sane13_any rfl ?_; rintro _ _ ⟨rfl, rfl⟩) | (refine Zab (.dup 0 rfl rfl .nil) Tryz.func17 rfl hlx rfl ?_; rintro _ _ ⟨rfl, rfl⟩) | (refine Zab (.dup 0 rfl rfl .nil) Tryz.func11 rfl hpa rfl ?_; rintro _ _ ⟨⟨k1, rfl⟩, rfl⟩)) | (apply Zbs; refine Zbh ?_; intro _) | (apply Zaz; refine Zao (k := 0) (l0 := []) rfl rfl rfl ?_)) | (refine Zby rfl rfl (fun hb => ?_) (fun hb => ?_) <;> (repeat (first | replace hb := Zas hb | replace hb := Zat hb | replace hb := Zcc hb | replace hb := Zcb hb)) <;> (try (exfalso; fail))) | (refine Zag rfl (fun hb => ?_) (fun hb => ?_) <;> (repeat (fail)) <;> (try (exfalso; fail)))))
   all_goals (try (exfalso; first | contradiction | (refine hgo ⟨?_, ?_, ?_, ?_, ?_, ?_⟩ <;> first | omega | assumption)))
   all_goals (refine ⟨.inr rfl, ret1 rfl (.tmp rfl) (List.nil_sublist _) ⟨congrArg exB ?_, rfl⟩⟩)
   all_goals (first | rfl | (simp; done))
theorem syntaxBrackets_u (s : List UInt8) (n : Int) (lo : IntKind.u8.min ≤ n) (hi : n ≤ IntKind.u8.max) : FnC Tryz.prog 8 [exT s, exI .u8 n] [Lab] (fun p loc => p = exB true ∧ loc = []) := by
 have h0 : 0 ≤ n := lo
 have h1 : n ≤ 255 := hi
 have e : ((UInt8.ofNat n.toNat).toNat : Int) = n := by
   rw [UInt8.toNat_ofNat_of_lt' (by show n.toNat < 256; omega)]; omega
 have := syntaxBrackets_any s (UInt8.ofNat n.toNat)
 rwa [e] at this
end Go.Proofs.YthdldeenpgeemaaGreatDoor
namespace Go.Proofs.YthdldeenpgeemaaGreatDoor
open Go Go.RowKit Go.Kx Go.Fr
end Go.Proofs.YthdldeenpgeemaaGreatDoor
namespace Go.Proofs.YthdldeenpgeemaaGreatDoor
open Go Go.RowKit Go.Kx Go.Fr
theorem all_take_succ {α : Type} {l : List α} {p : α → Bool} {i : Nat} (h : i < l.length) : (l.take (i + 1)).all p = ((l.take i).all p && p l[i]) := by
 rw [List.take_succ_eq_append_getElem h, List.all_append]; simp
end Go.Proofs.YthdldeenpgeemaaGreatDoor
namespace Go.Fr
open Go.RowKit Go.Kx
def RulesD.few13 (r : RulesD) : Bool := !(decide (10 < r.crits.length) || (decide (10 < r.bonus.length) || (decide (10 < r.malus.length) || (decide (10 < r.ties.length) || (decide (10 < r.rounds.length) || (decide (80 < r.prizes.length) || (decide (80 < r.points.length) || decide (60 < r.name.length)))))))) && (r.ties.all (fun t => decide (t.keys.length ≤ 40)) && r.rounds.all (fun y => decide (y.score.tot ≤ 60)))
end Go.Fr
namespace Go.Sx
open Go.Lx Go.Fr
theorem part_len (p : Int × List TokD) : (partT p).length ≤ p.2.length + 2 := by
 unfold partT
 split
 · simp only [List.length_append, List.length_cons, List.length_nil]; omega
 · omega
theorem frac_len (n d : Int) : (fracT n d).length ≤ 3 := by
 unfold fracT
 split <;> simp
theorem asm_len (k : Int) (s : List UInt8) (n d : Int) (ps : List (Int × List TokD)) : (asmT k s n d ps).length ≤ 5 + (ps.map fun p => p.2.length + 2).sum := by
 unfold asmT
 by_cases ha : ps.length = arityN k
 · simp only [if_neg (show ¬ ps.length ≠ arityN k from fun h => h ha)]
   have hf := frac_len n d
   by_cases h1 : k = 1
   · rw [if_pos h1]; omega
   rw [if_neg h1]
   by_cases h8 : k = 8
   · subst h8
     rw [if_pos rfl]
     obtain ⟨a, rfl⟩ := List.length_eq_one_iff.1 ha
     have := part_len a
     simp only [List.length_append, List.length_cons, List.getElem?_cons_zero, Option.map_some, Option.getD_some, List.map_cons, List.map_nil, List.sum_cons, List.sum_nil]; omega
   rw [if_neg h8]
   by_cases h2 : k = 2
   · rw [if_pos h2]; simp; omega
   rw [if_neg h2]
   by_cases h3 : k = 3
   · rw [if_pos h3]; simp; omega
   rw [if_neg h3]
   by_cases h4 : k = 4
   · rw [if_pos h4]; simp; omega
   rw [if_neg h4]
   by_cases h5 : k = 5
   · rw [if_pos h5]; simp; omega
   rw [if_neg h5]
   have two : arityN k = 2 → ∃ a b, ps = [a, b] := fun e => by
     rw [e] at ha
     match ps, ha with
     | [a, b], _ => exact ⟨a, b, rfl⟩
   by_cases h6 : k = 6
   · obtain ⟨a, b, rfl⟩ := two (by subst h6; rfl)
     rw [if_pos h6]
     have := part_len b
     simp only [List.length_append, List.length_cons, List.getElem?_cons_zero, List.getElem?_cons_succ, Option.map_some, Option.getD_some, List.map_cons, List.map_nil, List.sum_cons, List.sum_nil]; omega
   rw [if_neg h6]
   by_cases h7 : k = 7
   · obtain ⟨a, b, rfl⟩ := two (by subst h7; rfl)
     rw [if_pos h7]
     have := part_len b
     simp only [List.length_append, List.length_cons, List.getElem?_cons_zero, List.getElem?_cons_succ, Option.map_some, Option.getD_some, List.map_cons, List.map_nil, List.sum_cons, List.sum_nil]; omega
   rw [if_neg h7]
   by_cases h9 : k = 9
   · obtain ⟨a, b, rfl⟩ := two (by subst h9; rfl)
     rw [if_pos h9]
     simp only [List.length_append, List.length_cons, List.length_nil, List.getElem?_cons_zero, List.getElem?_cons_succ, Option.map_some, Option.getD_some, List.map_cons, List.map_nil, List.sum_cons, List.sum_nil]; omega
   rw [if_neg h9]
   by_cases h10 : k = 10
   · obtain ⟨a, b, rfl⟩ := two (by subst h10; rfl)
     rw [if_pos h10]
     simp only [List.length_append, List.length_cons, List.length_nil, List.getElem?_cons_zero, List.getElem?_cons_succ, Option.map_some, Option.getD_some, List.map_cons, List.map_nil, List.sum_cons, List.sum_nil]; omega
   rw [if_neg h10]
   by_cases h11 : k = 11
   · subst h11
     rw [if_pos rfl]
     match ps, ha with
     | [a, b, c, e], _ =>
       simp only [List.length_append, List.length_cons, List.length_nil, List.getElem?_cons_zero, List.getElem?_cons_succ, Option.map_some, Option.getD_some, List.map_cons, List.map_nil, List.sum_cons, List.sum_nil]; omega
   rw [if_neg h11]; simp
 · rw [if_pos ha]; simp
mutual
theorem exT_len : ∀ x : Ex, (exT' x).length + 2 ≤ 7 * x.tot
 | .mk k s n d l => by
   have h1 := asm_len k s n d (exTs l)
   have h2 := exTs_len l
   rw [exT', Ex.tot_l]
   show _ ≤ 7 * (1 + Ex.tots l)
   omega
theorem exTs_len : ∀ l : List Ex, ((exTs l).map fun p => p.2.length + 2).sum ≤ 7 * Ex.tots l
 | [] => Nat.le_refl _
 | x :: l => by
   have h1 := exT_len x
   have h2 := exTs_len l
   rw [exTs, List.map_cons, List.sum_cons, Ex.tots]
   show (exT' x).length + 2 + _ ≤ _
   omega
end
theorem fm_bound {α : Type} {tk : α → List TokD} {l : List α} {c : Nat} (h : ∀ x ∈ l, (tk x).length ≤ c) : (l.flatMap tk).length ≤ c * l.length := by
 induction l with
 | nil => simp
 | cons x l ih =>
   have h1 := h x (by simp)
   have h2 := ih fun y hy => h y (List.mem_cons_of_mem _ hy)
   rw [List.flatMap_cons, List.length_append, List.length_cons, Nat.mul_succ]
   omega
theorem how_len (x : Crit) : (howT x).length ≤ 3 := by unfold howT; split; simp; split <;> simp
theorem key_len (q : KeyD) : (keyT q).length ≤ 2 := by
 unfold keyT
 repeat' split
 all_goals simp
theorem keys_len (l : List KeyD) : (keysT l).length ≤ 3 * l.length := by
 cases l with
 | nil => exact Nat.le_refl _
 | cons x l =>
   have h1 := key_len x
   have h2 := fm_bound (tk := fun y => tkS sComma :: keyT y) (l := l) (c := 3) fun y _ => by have := key_len y; simp only [List.length_cons]; omega
   show (keyT x ++ l.flatMap _).length ≤ _
   rw [List.length_append, List.length_cons]; omega
theorem comma_len2 (l : List Int) : (commaT l).length ≤ 2 * l.length := by
 cases l with
 | nil => exact Nat.le_refl _
 | cons x l =>
   have h2 := fm_bound (tk := fun y : Int => [tkS sComma, tkN y]) (l := l) (c := 2) fun y _ => Nat.le_refl _
   show (l.flatMap _).length + 1 ≤ _
   rw [List.length_cons]; omega
theorem rules_len {r : RulesD} {n t k m e p : Nat} (h1 : r.crits.length ≤ n) (h2 : r.bonus.length ≤ n) (h3 : r.malus.length ≤ n) (h4 : r.ties.length ≤ t) (h5 : r.rounds.length ≤ m) (h6 : r.prizes.length ≤ p) (h7 : r.points.length ≤ p) (hk : ∀ x ∈ r.ties, x.keys.length ≤ k) (he : ∀ x ∈ r.rounds, x.score.tot ≤ e) : (rulesT r).length ≤ 15 * n + 7 * n + 7 * n + (3 * k + 3) * t + (12 + 7 * e) * m + 4 * p + 9 := by
 have c1 := fm_bound (tk := critT) (l := r.crits) (c := 15) fun x _ => by
   rw [critT_len]
   have := how_len x
   have : (revT x).length ≤ 1 := by unfold revT; split <;> simp
   omega
 have c2 := fm_bound (tk := itemT wBonus) (l := r.bonus) (c := 7) fun x _ => Nat.le_refl _
 have c3 := fm_bound (tk := itemT wMalus) (l := r.malus) (c := 7) fun x _ => Nat.le_refl _
 have c4 := fm_bound (tk := tieT) (l := r.ties) (c := 3 * k + 3) fun x hx => by
   rw [tieT_len]
   have := keys_len x.keys
   have := hk x hx
   omega
 have c5 := fm_bound (tk := roundT) (l := r.rounds) (c := 12 + 7 * e) fun x hx => by
   rw [roundT_len]
   have := exT_len x.score
   have := he x hx
   have : (cutT x.cut).length ≤ 1 := by unfold cutT; split; simp; split <;> simp
   have : (freeT x).length ≤ 1 := by unfold freeT; split <;> simp
   have : (plT x).length ≤ 1 + (exT' x.score).length := by unfold plT; split <;> simp <;> omega
   have : (tiT x).length ≤ 2 := by unfold tiT; split <;> simp
   omega
 have c6 := comma_len2 r.prizes
 have c7 := comma_len2 r.points
 have c8 : (przT r.prizes).length ≤ 2 + (commaT r.prizes).length := by unfold przT; split <;> simp <;> omega
 have c9 : (pntT r.points r.best).length ≤ 4 + (commaT r.points).length := by unfold pntT; split <;> simp <;> omega
 have hRT : rulesT r = [tkW wCompetition, tkW r.name, tkS sSemi] ++ r.crits.flatMap critT ++ r.bonus.flatMap (itemT wBonus) ++ r.malus.flatMap (itemT wMalus) ++ r.ties.flatMap tieT ++ r.rounds.flatMap roundT ++ przT r.prizes ++ pntT r.points r.best := rfl
 rw [hRT]
 simp only [List.length_append, List.length_cons, List.length_nil]
 have m1 := Nat.mul_le_mul_left 15 h1
 have m2 := Nat.mul_le_mul_left 7 h2
 have m3 := Nat.mul_le_mul_left 7 h3
 have m4 := Nat.mul_le_mul_left (3 * k + 3) h4
 have m5 := Nat.mul_le_mul_left (12 + 7 * e) h5
 omega
theorem few13_facts {r : RulesD} (h : r.few13 = true) : (rulesT r).length ≤ 70000 := by
 unfold RulesD.few13 at h
 simp only [Bool.and_eq_true, Bool.not_eq_true', Bool.or_eq_false_iff, decide_eq_false_iff_not, List.all_eq_true, decide_eq_true_eq] at h
 obtain ⟨h, ht, hs⟩ := h
 have := rules_len (n := 10) (t := 10) (k := 40) (m := 10) (e := 60) (p := 80) (r := r) (by omega) (by omega) (by omega) (by omega) (by omega) (by omega) (by omega) ht hs
 omega
end Go.Sx
namespace Go.Proofs.YthdldeenpgeemaaGreatDoor
open Go Go.RowKit Go.Kx Go.Fr Go.Lx Go.Sx
set_option maxRecDepth 100000 in
theorem size13_any : ∀ (k : Nat) (x : Ex) (m : Nat), m < 2 ^ 60 → FnC Tryz.prog 35 [agg (exV k x), exI .i64 m] [] (fun p loc => p = exI .i64 (x.partsN m) ∧ loc = []) := by
 intro k
 induction k with
 | zero => intro x m _; exact Zc1 (i := 0) rfl Says_ex0 fun h => h.elim
 | succ k ih =>
   intro x m hm
   refine Zc1 (i := 0) rfl (Zda (i := 4) (p := isl (eEx k) x.l) rfl Zc9) fun hlen => ?_
   show FnC Tryz.prog 35 [agg [exI .i64 x.kind, exT x.name, exI .i64 x.n, exI .i64 x.d, isl (eEx k) x.l], exI .i64 m] [] (fun p loc => p = exI .i64 (x.partsN m) ∧ loc = [])
   rw [Ex.partsN_l]
   obtain ⟨hlen, -⟩ := hlen
   simp only [maxLen] at hlen
   refine Zbr Tryz.func35 rfl Tryz.ntmps35 rfl fun w0 F0 out => ?_
   (repeat' (first | refine Za7 ?_ | refine Za1 ?_ | refine Za3 ?_ | (apply Za8; (exact Za5 rfl); exact rfl) | refine Zak ?_ | (apply Zac; exact rfl; (apply Zdv; refine Zdn rfl ?_; intro _))))
   rename_i b
   refine Zck (fun s : Nat × Nat => ([(1, exI .i64 (m : Int)), (2, ex (.pointer (some ⟨b, 0, none⟩))), (5, exI .i64 (s.2 : Int)), (6, exI .i64 (s.1 : Int))], [row b 52 5 [exI .i64 x.kind, exT x.name, exI .i64 x.n, exI .i64 x.d, isl (eEx k) x.l]])) (fun s => s.1 ≤ x.l.length ∧ s.2 ≤ m + 1 ∧ Ex.partsL (x.l.drop s.1) m s.2 = Ex.partsL x.l m 1) (fun s => x.l.length - s.1) (0, 1) ?_ ⟨Nat.zero_le _, by show 1 ≤ m + 1; omega, rfl⟩ fun s hs => ?_
   · exact Zaa (by repeat (first | exact Zaj | refine Zae rfl ?_)) (List.Sublist.refl _)
   obtain ⟨i, n⟩ := s
   obtain ⟨hi, hn, hp⟩ := hs
   simp only at hi hn hp ⊢
   by_cases hlt : i < x.l.length
   · rw [Ex.partsL_drop hlt] at hp
     by_cases hle : n ≤ m
     · rw [if_pos hle] at hp
       have hcall := ih x.l[i] (m - n) (by omega)
       have hsp := (Ex.partsN_spec x.l[i] (m - n)).1
       have e1 : ((m - n : Nat) : Int) = (m : Int) - (n : Int) := by omega
       rw [e1] at hcall
       (repeat' (first | refine Za7 ?_ | refine Za1 ?_ | refine Za3 ?_ | (apply Za8; (first | exact Za2 rfl | exact Za5 rfl | exact Zb8 (b := true) rfl (fun _ => rfl) (fun e => by cases e) | (apply Za9; first | exact Zah (k := 0) rfl rfl rfl rfl | exact Zb4 rfl rfl) | (apply Zam; exact Zad rfl rfl rfl) | (apply Zai; first | exact Zbg rfl rfl | exact Zbz rfl rfl | exact WT_sub rfl rfl) | (apply Zb3; exact Zb1 rfl rfl rfl) | (apply Zba; exact Zbq rfl rfl)); exact rfl) | (apply Zcn; exact rfl; exact rfl; exact rfl; (first | exact Za2 rfl | (apply Zai; exact WT_leq rfl rfl)); exact rfl) | refine Zak ?_ | refine Zan ?_ | (apply Zac; exact rfl; (apply Zaf; (refine Zbl Tryz.func35 rfl hcall rfl ?_; rintro _ _ ⟨rfl, rfl⟩))) | (refine Zby rfl rfl (fun hb => ?_) (fun hb => ?_) <;> (repeat (first | replace hb := Zas hb | replace hb := Zat hb)) <;> (try (exfalso; omega))) | (refine Zag rfl (fun hb => ?_) (fun hb => ?_) <;> (repeat (first | replace hb := Zas hb | replace hb := Zat hb)) <;> (try (exfalso; omega)))))
       all_goals (try (exfalso; omega))
       exact ⟨(i + 1, n + x.l[i].partsN (m - n)), ⟨by show i + 1 ≤ _; omega, by show n + _ ≤ m + 1; omega, hp⟩, by show x.l.length - (i + 1) < x.l.length - i; omega, Zaa (by repeat (first | exact Zaj | refine Zae rfl ?_)) (List.Sublist.refl _)⟩
     · rw [if_neg hle] at hp
       (repeat' (first | refine Za7 ?_ | refine Za1 ?_ | refine Za3 ?_ | (apply Za8; (first | exact Za2 rfl | exact Za5 rfl | exact Zb8 (b := true) rfl (fun _ => rfl) (fun e => by cases e) | (apply Za9; exact Zah (k := 0) rfl rfl rfl rfl) | (apply Zam; exact Zad rfl rfl rfl) | (apply Zai; exact Zbg rfl rfl) | (apply Zba; exact Zbq rfl rfl)); exact rfl) | (apply Zcn; exact rfl; exact rfl; exact rfl; (first | exact Za2 rfl | (apply Zai; exact WT_leq rfl rfl)); exact rfl) | refine Zb2 ?_ | refine Zcf ?_ | (refine Zby rfl rfl (fun hb => ?_) (fun hb => ?_) <;> (repeat (first | replace hb := Zas hb | replace hb := Zat hb)) <;> (try (exfalso; omega))) | (refine Zag rfl (fun hb => ?_) (fun hb => ?_) <;> (repeat (first | replace hb := Zas hb | replace hb := Zat hb)) <;> (try (exfalso; omega)))))
       all_goals (try (exfalso; omega))
       refine ⟨.inr rfl, ret1 rfl (.tmp rfl) (List.nil_sublist _) ⟨by rw [← hp], rfl⟩⟩
   · have hk9 : i = x.l.length := by omega
     subst hk9
     rw [List.drop_length] at hp
     simp only [Ex.partsL] at hp
     (repeat' (first | refine Za7 ?_ | refine Za1 ?_ | refine Za3 ?_ | (apply Za8; (first | exact Za2 rfl | exact Za5 rfl | exact Zb8 (b := false) rfl (fun e => by cases e) (fun _ => rfl) | (apply Za9; exact Zah (k := 0) rfl rfl rfl rfl) | (apply Zam; exact Zad rfl rfl rfl) | (apply Zai; exact Zbg rfl rfl) | (apply Zba; exact Zbq rfl rfl)); exact rfl) | (refine Zco rfl rfl rfl rfl rfl ?_) | refine Zb2 ?_ | refine Zcf ?_ | refine Zb0 rfl ?_ | (refine Zby rfl rfl (fun hb => ?_) (fun hb => ?_) <;> (repeat (first | replace hb := Zas hb | replace hb := Zat hb)) <;> (try (exfalso; omega)))))
     all_goals (try (exfalso; omega))
     refine ⟨.inr rfl, ret1 rfl (.tmp rfl) (List.nil_sublist _) ⟨by rw [← hp], rfl⟩⟩
set_option maxHeartbeats 1000000 in
set_option maxRecDepth 100000 in
theorem few13_any (k : Nat) (r : RulesD) : FnC Tryz.prog 14 [rul k r] [] (fun p loc => p = exB r.few13 ∧ loc = []) := by
 refine Zc1 (i := 0) rfl (Zda (i := 4) rfl Zc9) fun ht => ?_
 refine Zc1 (i := 0) rfl (Zda (i := 5) rfl Zc9) fun hr => ?_
 replace ht := ht.1; replace hr := hr.1
 simp only [maxLen] at ht hr
 refine Zbr Tryz.func14 rfl Tryz.ntmps14 rfl fun w0 F0 out => ?_
 by_cases h0 : r.crits.length ≤ 10 ∧ r.bonus.length ≤ 10 ∧ r.malus.length ≤ 10 ∧ r.ties.length ≤ 10 ∧ r.rounds.length ≤ 10 ∧ r.prizes.length ≤ 80 ∧ r.points.length ≤ 80 ∧ r.name.length ≤ 60
 · obtain ⟨h1, h2, h3, h4, h5, h6, h7, h8⟩ := h0
   have hf : r.few13 = (r.ties.all (fun t => decide (t.keys.length ≤ 40)) && r.rounds.all (fun y => decide (y.score.tot ≤ 60))) := by
     unfold RulesD.few13
     simp only [decide_eq_false (Nat.not_lt.2 h1), decide_eq_false (Nat.not_lt.2 h2), decide_eq_false (Nat.not_lt.2 h3), decide_eq_false (Nat.not_lt.2 h4), decide_eq_false (Nat.not_lt.2 h5), decide_eq_false (Nat.not_lt.2 h6), decide_eq_false (Nat.not_lt.2 h7), decide_eq_false (Nat.not_lt.2 h8), Bool.false_or, Bool.not_false, Bool.true_and]
   rw [hf]
   (repeat' (first | refine Za7 ?_ | refine Za1 ?_ | refine Za3 ?_ | (apply Za8; (first | exact Za2 rfl | exact Za5 rfl | exact Zb8 (b := false) rfl (fun e => by cases e) (fun _ => rfl) | (apply Za9; exact Zah (k := 0) rfl rfl rfl rfl) | (apply Zam; exact Zad rfl rfl rfl) | (apply Zai; exact Zcu rfl rfl) | (apply Zba; exact Zbq rfl rfl)); exact rfl) | (apply Zcn; exact rfl; exact rfl; exact rfl; (first | (apply Za9; exact Zah (k := 0) rfl rfl rfl rfl) | (apply Zam; exact Zad rfl rfl rfl) | (apply Zai; exact Zcu rfl rfl) | (apply Zba; first | exact Zcr rfl rfl | exact Zbq rfl rfl)); exact rfl) | refine Zak ?_ | refine Zan ?_ | (apply Zac; exact rfl; (apply Zdv; refine Zdn rfl ?_; intro _)) | (refine Zby rfl rfl (fun hb => ?_) (fun hb => ?_) <;> (repeat (first | replace hb := Zas hb | replace hb := Zat hb)) <;> (try (exfalso; omega))) | (refine Zag rfl (fun hb => ?_) (fun hb => ?_) <;> (repeat (first | replace hb := Zas hb | replace hb := Zat hb)) <;> (try (exfalso; omega)))))
   all_goals (try (exfalso; omega))
   rename_i b1 _ _ _ _ _ _ _
   refine Zck (fun i : Nat => ([(1, ex (.pointer (some ⟨b1, 0, none⟩))), (3, exI .i64 (i : Int))], [row b1 29 9 (rulesV k r)])) (fun i => i ≤ r.ties.length ∧ (r.ties.take i).all (fun t => decide (t.keys.length ≤ 40)) = true) (fun i => r.ties.length - i) 0 ?_ ⟨Nat.zero_le _, rfl⟩ fun i hi => ?_
   · exact Zaa (by repeat (first | exact Zaj | refine Zae rfl ?_)) (List.Sublist.refl _)
   obtain ⟨hi, hall⟩ := hi
   by_cases hlt : i < r.ties.length
   · by_cases he : r.ties[i].keys.length ≤ 40
     · (repeat' (first | refine Za7 ?_ | refine Za1 ?_ | refine Za3 ?_ | (apply Za8; (first | exact Za2 rfl | exact Za5 rfl | (apply Za9; first | exact Zau rfl rfl | exact Zah (k := 0) rfl rfl rfl rfl) | (apply Zam; first | exact Zad rfl rfl rfl | exact Zax rfl rfl rfl) | (apply Zai; first | exact Zbg rfl rfl | exact Zcu rfl rfl | exact Zbz rfl rfl) | (apply Zb3; exact Zb1 rfl rfl rfl) | (apply Zba; exact Zbq rfl rfl)); exact rfl) | refine Zak ?_ | refine Zan ?_ | (refine Zag rfl (fun hb => ?_) (fun hb => ?_) <;> (repeat (first | replace hb := Zas hb | replace hb := Zat hb)) <;> (try (exfalso; omega)))))
       all_goals (try (exfalso; omega))
       exact ⟨i + 1, ⟨by omega, by rw [all_take_succ hlt, hall, decide_eq_true he]; rfl⟩, by omega, Zaa (by repeat (first | exact Zaj | refine Zae rfl ?_)) (List.Sublist.refl _)⟩
     · (repeat' (first | refine Za7 ?_ | refine Za1 ?_ | refine Za3 ?_ | (apply Za8; (first | exact Za2 rfl | exact Za5 rfl | (apply Za9; first | exact Zau rfl rfl | exact Zah (k := 0) rfl rfl rfl rfl) | (apply Zam; first | exact Zad rfl rfl rfl | exact Zax rfl rfl rfl) | (apply Zai; first | exact Zbg rfl rfl | exact Zcu rfl rfl) | (apply Zb3; exact Zb1 rfl rfl rfl) | (apply Zba; exact Zbq rfl rfl)); exact rfl) | refine Zak ?_ | refine Zan ?_ | refine Zb2 ?_ | (refine Zag rfl (fun hb => ?_) (fun hb => ?_) <;> (repeat (first | replace hb := Zas hb | replace hb := Zat hb)) <;> (try (exfalso; omega)))))
       all_goals (try (exfalso; omega))
       refine ⟨.inr rfl, ret1 rfl (.tmp rfl) (List.nil_sublist _) ⟨congrArg exB ?_, rfl⟩⟩
       have : r.ties.all (fun t => decide (t.keys.length ≤ 40)) = false := by
         rw [List.all_eq_false]; exact ⟨_, List.getElem_mem hlt, by simpa using he⟩
       rw [this]; rfl
   · have hk9 : i = r.ties.length := by omega
     subst hk9
     rw [List.take_length] at hall
     rw [hall, Bool.true_and]
     (repeat' (first | refine Za7 ?_ | refine Za1 ?_ | refine Za3 ?_ | (apply Za8; (first | exact Za2 rfl | exact Za5 rfl | (apply Za9; exact Zah (k := 0) rfl rfl rfl rfl) | (apply Zam; exact Zad rfl rfl rfl) | (apply Zai; exact Zbg rfl rfl) | (apply Zba; exact Zbq rfl rfl)); exact rfl) | refine Zak ?_ | refine Zcf ?_ | (refine Zag rfl (fun hb => ?_) (fun hb => ?_) <;> (repeat (first | replace hb := Zas hb | replace hb := Zat hb)) <;> (try (exfalso; omega)))))
     all_goals (try (exfalso; omega))
     refine Zck (fun i : Nat => ([(1, ex (.pointer (some ⟨b1, 0, none⟩))), (4, exI .i64 (i : Int))], [row b1 29 9 (rulesV k r)])) (fun i => i ≤ r.rounds.length ∧ (r.rounds.take i).all (fun y => decide (y.score.tot ≤ 60)) = true) (fun i => r.rounds.length - i) 0 ?_ ⟨Nat.zero_le _, rfl⟩ fun i hi => ?_
     · exact Zaa (by repeat (first | exact Zaj | refine Zae rfl ?_)) (List.Sublist.refl _)
     obtain ⟨hi, hall2⟩ := hi
     by_cases hlt : i < r.rounds.length
     · have hp := Ex.partsN_spec r.rounds[i].score 60
       by_cases he : r.rounds[i].score.tot ≤ 60
       · have hp2 := hp.2.1 he
         (repeat' (first | refine Za7 ?_ | refine Za1 ?_ | refine Za3 ?_ | (apply Za8; (first | exact Za2 rfl | exact Za5 rfl | (apply Za9; first | exact Zah (k := 0) rfl rfl rfl rfl | exact Zb4 rfl rfl) | (apply Zam; first | exact Zad rfl rfl rfl | exact Zax rfl rfl rfl) | (apply Zai; first | exact Zbg rfl rfl | exact Zcu rfl rfl | exact Zbz rfl rfl) | (apply Zb3; exact Zb1 rfl rfl rfl) | (apply Zba; exact Zbq rfl rfl)); exact rfl) | refine Zak ?_ | refine Zan ?_ | (apply Zac; exact rfl; (apply Zaf; (refine Zbl Tryz.func35 rfl (size13_any _ _ 60 (by decide)) rfl ?_; rintro _ _ ⟨rfl, rfl⟩))) | (refine Zag rfl (fun hb => ?_) (fun hb => ?_) <;> (repeat (first | replace hb := Zas hb | replace hb := Zat hb)) <;> (try (exfalso; omega)))))
         all_goals (try (exfalso; omega))
         exact ⟨i + 1, ⟨by omega, by rw [all_take_succ hlt, hall2, decide_eq_true he]; rfl⟩, by omega, Zaa (by repeat (first | exact Zaj | refine Zae rfl ?_)) (List.Sublist.refl _)⟩
       · have hp2 := hp.2.2 (by omega)
         (repeat' (first | refine Za7 ?_ | refine Za1 ?_ | refine Za3 ?_ | (apply Za8; (first | exact Za2 rfl | exact Za5 rfl | (apply Za9; first | exact Zah (k := 0) rfl rfl rfl rfl | exact Zb4 rfl rfl) | (apply Zam; first | exact Zad rfl rfl rfl | exact Zax rfl rfl rfl) | (apply Zai; first | exact Zbg rfl rfl | exact Zcu rfl rfl) | (apply Zb3; exact Zb1 rfl rfl rfl) | (apply Zba; exact Zbq rfl rfl)); exact rfl) | refine Zak ?_ | refine Zan ?_ | refine Zb2 ?_ | (apply Zac; exact rfl; (apply Zaf; (refine Zbl Tryz.func35 rfl (size13_any _ _ 60 (by decide)) rfl ?_; rintro _ _ ⟨rfl, rfl⟩))) | (refine Zag rfl (fun hb => ?_) (fun hb => ?_) <;> (repeat (first | replace hb := Zas hb | replace hb := Zat hb)) <;> (try (exfalso; omega)))))
         all_goals (try (exfalso; omega))
         refine ⟨.inr rfl, ret1 rfl (.tmp rfl) (List.nil_sublist _) ⟨congrArg exB ?_, rfl⟩⟩
         symm
         rw [List.all_eq_false]; exact ⟨_, List.getElem_mem hlt, by simpa using he⟩
     · have hk9 : i = r.rounds.length := by omega
       subst hk9
       rw [List.take_length] at hall2
       rw [hall2]
       (repeat' (first | refine Za7 ?_ | refine Za1 ?_ | refine Za3 ?_ | (apply Za8; (first | exact Za2 rfl | exact Za5 rfl | (apply Za9; exact Zah (k := 0) rfl rfl rfl rfl) | (apply Zam; exact Zad rfl rfl rfl) | (apply Zai; exact Zbg rfl rfl) | (apply Zba; exact Zbq rfl rfl)); exact rfl) | refine Zb2 ?_ | refine Zcf ?_ | (refine Zag rfl (fun hb => ?_) (fun hb => ?_) <;> (repeat (first | replace hb := Zas hb | replace hb := Zat hb)) <;> (try (exfalso; omega)))))
       all_goals (try (exfalso; omega))
       exact ⟨.inr rfl, ret1 rfl (.tmp rfl) (List.nil_sublist _) ⟨rfl, rfl⟩⟩
 · have hf : r.few13 = false := by
     cases e : r.few13
     · rfl
     · exfalso; apply h0
       unfold RulesD.few13 at e
       simp only [Bool.and_eq_true, Bool.not_eq_true', Bool.or_eq_false_iff, decide_eq_false_iff_not] at e
       omega
   rw [hf]
   (repeat' (first | refine Za7 ?_ | refine Za1 ?_ | refine Za3 ?_ | (apply Za8; (first | exact Za2 rfl | exact Za5 rfl | exact Zb8 (b := true) rfl (fun _ => rfl) (fun e => by cases e) | exact Zb8 (b := false) rfl (fun e => by cases e) (fun _ => rfl) | (apply Za9; exact Zah (k := 0) rfl rfl rfl rfl) | (apply Zam; exact Zad rfl rfl rfl) | (apply Zai; exact Zcu rfl rfl) | (apply Zba; exact Zbq rfl rfl)); exact rfl) | (refine Zco rfl rfl rfl rfl rfl ?_) | (apply Zcn; exact rfl; exact rfl; exact rfl; (first | (apply Za9; exact Zah (k := 0) rfl rfl rfl rfl) | (apply Zam; exact Zad rfl rfl rfl) | (apply Zai; exact Zcu rfl rfl) | (apply Zba; first | exact Zcr rfl rfl | exact Zbq rfl rfl)); exact rfl) | refine Zb2 ?_ | refine Zaw rfl ?_ | (apply Zac; exact rfl; (apply Zdv; refine Zdn rfl ?_; intro _)) | (refine Zby rfl rfl (fun hb => ?_) (fun hb => ?_) <;> (repeat (first | replace hb := Zas hb | replace hb := Zat hb)) <;> (try (exfalso; fail))) | (refine Zag rfl (fun hb => ?_) (fun hb => ?_) <;> (repeat (first | replace hb := Zas hb | replace hb := Zat hb)) <;> (try (exfalso; omega)))))
   all_goals first | exact ⟨.inr rfl, ret1 rfl (.tmp rfl) (List.nil_sublist _) ⟨rfl, rfl⟩⟩ | (exfalso; omega)
end Go.Proofs.YthdldeenpgeemaaGreatDoor
namespace Go.Sx
open Go.Lx Go.Fr
theorem parse_ok {s : List UInt8} (h : (parseA s).2.2 = 0) : ∃ l, (∀ t ∈ l, validB t = true) ∧ l.length ≤ s.length ∧ rulesP l = .ok ((parseA s).1, []) := by
 unfold parseA at h ⊢
 by_cases hs : 65536 < s.length
 · rw [if_pos hs] at h; exact absurd h (by decide)
 · rw [if_neg hs] at h ⊢
   cases hl : lexF 0 s with
   | error p => rw [hl] at h; exact absurd h (show ¬ (30 : Int) = 0 by decide)
   | ok l =>
     rw [hl] at h
     dsimp only at h ⊢
     unfold readA at h ⊢
     cases hr : rulesP l with
     | error e => rw [hr] at h; exact absurd h (show ¬ (130 : Int) = 0 by decide)
     | ok q =>
       obtain ⟨r, u⟩ := q
       obtain rfl := rules_all hr
       exact ⟨l, lex_valid 0 s l hl, lex_cnt hl, hr⟩
theorem print_ok {r : RulesD} (hv : Va (rulesT r)) (h : rulesP (rulesT r) = .ok (r, [])) : printA r = (joinF ((rulesT r).map word), 0) := by
 unfold printA readA
 rw [h, show (rulesT r).all validB = true from List.all_eq_true.2 hv]
 simp
theorem print_cases (r : RulesD) : printA r = ([], 130) ∨ (printA r = (joinF ((rulesT r).map word), 0) ∧ Va (rulesT r) ∧ rulesP (rulesT r) = .ok (r, [])) := by
 by_cases h : ((rulesT r).all validB && (decide ((readA (rulesT r) 0).2.2 = 0) && decide ((readA (rulesT r) 0).1 = r))) = true
 · refine .inr ⟨by unfold printA; rw [if_pos h], ?_⟩
   simp only [Bool.and_eq_true, decide_eq_true_eq] at h
   obtain ⟨h1, h2, h3⟩ := h
   refine ⟨List.all_eq_true.1 h1, ?_⟩
   unfold readA at h2 h3
   cases hr : rulesP (rulesT r) with
   | error e => rw [hr] at h2; exact absurd h2 (show ¬ (130 : Int) = 0 by decide)
   | ok q =>
     obtain ⟨x, u⟩ := q
     obtain rfl := rules_all hr
     rw [hr] at h3
     exact congrArg (fun z => Except.ok (z, [])) h3
 · exact .inl (by unfold printA; rw [if_neg h])
theorem fm_ge {α : Type} {tk : α → List TokD} (h : ∀ x, 1 ≤ (tk x).length) : ∀ l : List α, l.length ≤ (l.flatMap tk).length
 | [] => Nat.le_refl _
 | x :: l => by
   have h1 := h x
   have h2 := fm_ge h l
   rw [List.flatMap_cons, List.length_append, List.length_cons]; omega
theorem lists_len (r : RulesD) : r.crits.length + r.rounds.length ≤ (rulesT r).length := by
 have h1 := fm_ge (tk := critT) (fun x => by rw [critT_len]; omega) r.crits
 have h2 := fm_ge (tk := roundT) (fun x => by rw [roundT_len]; omega) r.rounds
 unfold rulesT
 simp only [List.length_append]
 omega
end Go.Sx
namespace Go.Proofs.YthdldeenpgeemaaGreatDoor
open Go Go.RowKit Go.Kx Go.Fr Go.Lx Go.Sx
set_option maxHeartbeats 8000000 in
set_option maxRecDepth 100000 in
theorem syntaxBack_any (s : List UInt8) (k : Nat) (r : RulesD) : FnC Tryz.prog 5 [exT s, agg (rulesV k r)] [Lab] (fun p loc => p = exB true ∧ loc = []) := by
 refine Zbr Tryz.func5 rfl Tryz.ntmps5 rfl fun w0 F0 out => ?_
 (repeat' (first | (apply Zci 3; refine StopW.out ?_) | refine Za7 ?_ | refine Za1 ?_ | refine Za3 ?_ | (apply Za8; (first | exact Za5 rfl | (apply g_un; exact Zcy rfl)); exact rfl) | refine Zan ?_ | refine Zb0 rfl ?_ | (apply Zac; exact rfl; first | (apply Zaf; (refine Zab (.dup 1 rfl rfl .nil) Tryz.func10 rfl sane13_any rfl ?_; rintro _ _ ⟨rfl, rfl⟩)) | (apply Zdv; refine Zdn rfl ?_; intro _))))
 all_goals (try (exfalso; first | contradiction | omega))
 refine ⟨?_⟩
 rename_i b3
 refine Zdj (fun z : Nat × RulesD => ([(3, ex (.pointer (some ⟨b3, 0, none⟩)))], [row b3 29 9 (rulesV z.1 z.2), Lab])) (fun _ => True) ?_ fun z _ => ?_
 · have hpa := parse13_any s
   by_cases hgo : s.length ≤ 2000 ∧ (parseA s).2.2 = 0
   · obtain ⟨hs, h0⟩ := hgo
     obtain ⟨l, hv, hl, hr⟩ := parse_ok h0
     obtain ⟨hb1, hb2, hb3⟩ := back_plain hv hr
     have hpo := print_ok hb1 hb2
     generalize parseA s = z at *
     obtain ⟨x, a, e⟩ := z
     dsimp only at h0 hr hb1 hb2 hb3 hpo
     subst h0
     unfold readR at hpa
     dsimp only at hpa
     have hpr := fun k => print13_any k x (by omega)
     have hll := lists_len x
     rw [hpo] at hpr
     unfold textV at hpr
     dsimp only at hpr
     (repeat' (first | (apply Zci 5; refine StopW.out ?_) | refine Za7 ?_ | refine Za1 ?_ | refine Za3 ?_ | (apply Za8; (first | exact Za2 rfl | exact Za5 rfl | exact Zbw rfl rfl | (apply Zai; exact WT_leq rfl rfl) | (apply Zba; exact Zcr rfl rfl)); exact rfl) | (apply Zac; exact rfl; first | (apply Zaf; (refine Zab (.dup 1 rfl rfl .nil) Tryz.func11 rfl hpa rfl ?_; rintro _ _ ⟨⟨k1, rfl⟩, rfl⟩)) | (apply Zbs; refine Zbh ?_; intro _) | (apply Zaz; refine Zao (k := 0) (l0 := []) rfl rfl rfl ?_)) | (refine Zag rfl (fun hb => ?_) (fun hb => ?_) <;> (repeat (first | replace hb := Zas hb | replace hb := Zat hb)) <;> (try (exfalso; omega)))))
     all_goals (try (exfalso; first | contradiction | omega))
     refine ⟨?_⟩
     refine Zbc (Leads_fp (k := 0) (t := 5) rfl rfl) ?_
     refine Zbc (env' := [(3, ex (.pointer (some ⟨b3, 0, none⟩))), (5, fp (rulesV k1 x)), (7, exI .i64 0)]) (loc' := [row b3 29 9 (rulesV k r), Lab]) (Zaa (by repeat (first | exact Zaj | refine Zae rfl ?_)) (List.Sublist.refl _)) ?_
     (repeat' (first | (apply Zaq 45; apply Za8 (p := agg (rulesV k1 x)); exact WT_loadfa2 (qs := rulesV k1 x) rfl rfl (hq := ⟨rfl⟩); exact rfl) | refine Za7 ?_ | refine Za1 ?_ | refine Za3 ?_ | (apply Za8; (first | exact Za2 rfl | exact Za5 rfl | exact Zbw rfl rfl | (apply Za9; first | exact Zau rfl rfl | exact Zb4 rfl rfl) | (apply Zam; exact Zax rfl rfl rfl) | (apply Zai; first | exact Zc4 rfl rfl | exact Zca rfl rfl | exact Zcu rfl rfl | exact Zbz rfl rfl) | (apply Zba; exact Zbq rfl rfl)); exact rfl) | refine Zan ?_ | refine Zaw rfl ?_ | refine Zb0 rfl ?_ | (apply Zac; exact rfl; first | (apply Zaf; (refine Zab (.dup 1 rfl rfl .nil) Tryz.func15 rfl (hpr _) rfl ?_; rintro _ _ ⟨rfl, rfl⟩)) | (apply Zaz; refine Zao (k := 0) (l0 := []) rfl rfl rfl ?_)) | (refine Zag rfl (fun hb => ?_) (fun hb => ?_) <;> (repeat (first | replace hb := Zas hb | replace hb := Zat hb)) <;> (try (exfalso; fail)))))
     all_goals (try (exfalso; first | contradiction | omega))
     all_goals (first | exact Zch (Q := fun _ _ _ => True) (k, r) trivial (Zaa (by repeat (first | exact Zaj | refine Zae rfl ?_)) (by first | exact .refl _ | exact .cons _ (.refl _))) | exact Zch (Q := fun _ _ _ => True) (k1, x) trivial (Zaa (by repeat (first | exact Zaj | refine Zae rfl ?_)) (by first | exact .refl _ | exact .cons _ (.refl _))))
   · generalize parseA s = z at *
     obtain ⟨x, a, e⟩ := z
     unfold readR at hpa
     dsimp only at hpa hgo
     (repeat' (first | refine Za7 ?_ | refine Za1 ?_ | refine Za3 ?_ | (apply Za8; (first | exact Za2 rfl | exact Za5 rfl | exact Zbw rfl rfl | (apply Zai; first | exact Zc4 rfl rfl | exact WT_leq rfl rfl) | (apply Zba; exact Zcr rfl rfl)); exact rfl) | refine Zan ?_ | (apply Zac; exact rfl; first | (apply Zaf; (refine Zab (.dup 1 rfl rfl .nil) Tryz.func11 rfl hpa rfl ?_; rintro _ _ ⟨⟨k1, rfl⟩, rfl⟩)) | (apply Zbs; refine Zbh ?_; intro _) | (apply Zaz; refine Zao (k := 0) (l0 := []) rfl rfl rfl ?_)) | (refine Zag rfl (fun hb => ?_) (fun hb => ?_) <;> (repeat (first | replace hb := Zas hb | replace hb := Zat hb)) <;> (try (exfalso; omega)))))
     all_goals (try (exfalso; first | contradiction | (refine hgo ⟨?_, ?_⟩ <;> omega)))
     all_goals (first | exact Zch (Q := fun _ _ _ => True) (k, r) trivial (Zaa (by repeat (first | exact Zaj | refine Zae rfl ?_)) (by first | exact .refl _ | exact .cons _ (.refl _))) | exact Zch (Q := fun _ _ _ => True) (k1, x) trivial (Zaa (by repeat (first | exact Zaj | refine Zae rfl ?_)) (by first | exact .refl _ | exact .cons _ (.refl _))))
 obtain ⟨k1, x⟩ := z
 dsimp only
 refine Zbc (Leads_fp (k := 0) (t := 3) rfl rfl) ?_
 refine Zbc (env' := [(3, fp (rulesV k1 x))]) (loc' := [Lab]) (Zaa (by repeat (first | exact Zaj | refine Zae rfl ?_)) (List.Sublist.refl _)) ?_
 have hfw := few13_any k1 x
 cases hfb : x.few13
 · rw [hfb] at hfw
   (repeat' (first | refine Za7 ?_ | refine Za1 ?_ | refine Za3 ?_ | (apply Za8; (first | exact Za5 rfl | (apply Za9; exact Zb4 rfl rfl) | (apply g_un; exact Zcy rfl)); exact rfl) | refine Zb2 ?_ | refine Zaw rfl ?_ | (apply Zac; exact rfl; (apply Zaf; (refine Zbl Tryz.func14 rfl hfw rfl ?_; rintro _ _ ⟨rfl, rfl⟩)))))
   all_goals (try (exfalso; first | contradiction | omega))
   all_goals (refine ⟨.inr rfl, ret1 rfl (.tmp rfl) (List.nil_sublist _) ⟨congrArg exB ?_, rfl⟩⟩)
   all_goals (first | rfl | (simp; done))
 · rw [hfb] at hfw
   have hpr := fun k => print13_any k x (few13_facts hfb)
   rcases print_cases x with hpo | ⟨hpo, hva, hrl⟩
   · rw [hpo] at hpr
     unfold textV at hpr
     dsimp only at hpr
     (repeat' (first | refine Za7 ?_ | refine Za1 ?_ | refine Za3 ?_ | (apply Za8; (first | exact Za2 rfl | exact Za5 rfl | exact Zb8 (b := true) rfl (fun _ => rfl) (fun e => by cases e) | exact Zbw rfl rfl | (apply Za9; exact Zb4 rfl rfl) | (apply Zai; first | exact Zc4 rfl rfl | exact Zca rfl rfl) | (apply g_un; exact Zcy rfl)); exact rfl) | (apply Zcn; exact rfl; exact rfl; exact rfl; (first | exact Za2 rfl | (apply Zai; exact Zdr rfl rfl)); exact rfl) | refine Zan ?_ | refine Zb2 ?_ | refine Zaw rfl ?_ | refine Zb0 rfl ?_ | (apply Zac; exact rfl; (apply Zaf; first | (refine Zbl Tryz.func14 rfl hfw rfl ?_; rintro _ _ ⟨rfl, rfl⟩) | (refine Zab (.dup 0 rfl rfl .nil) Tryz.func15 rfl (hpr _) rfl ?_; rintro _ _ ⟨rfl, rfl⟩)))))
     all_goals (try (exfalso; first | contradiction | omega))
     all_goals (refine ⟨.inr rfl, ret1 rfl (.tmp rfl) (List.nil_sublist _) ⟨congrArg exB ?_, rfl⟩⟩)
     all_goals (first | rfl | (simp; done))
   · rw [hpo] at hpr
     unfold textV at hpr
     dsimp only at hpr
     have hpb := parse13_any (joinF ((rulesT x).map word))
     by_cases hj : (joinF ((rulesT x).map word)).length ≤ 65536
     · rw [parse_join hva hj] at hpb
       have hrd : readA (placed 0 (rulesT x)) (joinF ((rulesT x).map word)).length = (x, 0, 0) := by
         unfold readA
         rw [(rules_placed 0).1 hrl]
       rw [hrd] at hpb
       unfold readR at hpb
       dsimp only at hpb
       generalize joinF ((rulesT x).map word) = J at *
       (repeat' (first | refine Za7 ?_ | refine Za1 ?_ | refine Za3 ?_ | (apply Za8; (first | exact Za2 rfl | exact Za5 rfl | exact Zb8 (b := true) rfl (fun _ => rfl) (fun e => by cases e) | exact Zbw rfl rfl | (apply Za9; first | exact Zb4 rfl rfl | exact Zbm (k := 0) rfl rfl rfl) | (apply Zai; first | exact Zc4 rfl rfl | exact Zca rfl rfl | exact Zcu rfl rfl) | (apply Zba; exact Zcr rfl rfl) | (apply g_un; exact Zcy rfl)); exact rfl) | (apply Zcn; exact rfl; exact rfl; exact rfl; (first | exact Za2 rfl | (apply Za9; first | exact Zb4 rfl rfl | exact Zbm (k := 0) rfl rfl rfl) | (apply Zai; first | exact Zdr rfl rfl | exact Zc4 rfl rfl)); exact rfl) | refine Zan ?_ | refine Zb2 ?_ | refine Zb0 rfl ?_ | (apply Zac; exact rfl; first | (apply Zaf; first | (refine Zbl Tryz.func14 rfl hfw rfl ?_; rintro _ _ ⟨rfl, rfl⟩) | (refine Zab (.dup 0 rfl rfl .nil) Tryz.func15 rfl (hpr _) rfl ?_; rintro _ _ ⟨rfl, rfl⟩) | (refine Zab (.dup 0 rfl rfl .nil) Tryz.func11 rfl hpb rfl ?_; rintro _ _ ⟨⟨k2, rfl⟩, rfl⟩) | (refine Zab (.dup 1 rfl rfl .nil) Tryz.func15 rfl (hpr _) rfl ?_; rintro _ _ ⟨rfl, rfl⟩)) | (apply Zbs; refine Zbh ?_; intro _) | (apply Zaz; refine Zao (k := 0) (l0 := []) rfl rfl rfl ?_)) | (apply Zdh; exact rfl; exact rfl; exact rfl; exact rfl; (apply Zaf; (refine Zbl Tryz.func13 rfl (rsame13_any _ _ _ _) rfl ?_; rintro _ _ ⟨rfl, rfl⟩))) | (refine Zby rfl rfl (fun hb => ?_) (fun hb => ?_) <;> (repeat (first | replace hb := Zas hb | replace hb := Zat hb)) <;> (try (exfalso; contradiction))) | (refine Zag rfl (fun hb => ?_) (fun hb => ?_) <;> (repeat (first | replace hb := Zas hb | replace hb := Zat hb)) <;> (try (exfalso; omega)))))
       all_goals (try (exfalso; first | contradiction | omega))
       all_goals (refine ⟨.inr rfl, ret1 rfl (.tmp rfl) (List.nil_sublist _) ⟨congrArg exB ?_, rfl⟩⟩)
       all_goals (first | rfl | (simp; done))
     · generalize joinF ((rulesT x).map word) = J at *
       (repeat' (first | refine Za7 ?_ | refine Za1 ?_ | refine Za3 ?_ | (apply Za8; (first | exact Za2 rfl | exact Za5 rfl | exact Zbw rfl rfl | (apply Za9; exact Zb4 rfl rfl) | (apply Zai; first | exact Zca rfl rfl | exact Zcu rfl rfl) | (apply Zba; exact Zcr rfl rfl) | (apply g_un; exact Zcy rfl)); exact rfl) | refine Zan ?_ | refine Zb2 ?_ | refine Zb0 rfl ?_ | (apply Zac; exact rfl; (apply Zaf; first | (refine Zbl Tryz.func14 rfl hfw rfl ?_; rintro _ _ ⟨rfl, rfl⟩) | (refine Zab (.dup 0 rfl rfl .nil) Tryz.func15 rfl (hpr _) rfl ?_; rintro _ _ ⟨rfl, rfl⟩))) | (refine Zag rfl (fun hb => ?_) (fun hb => ?_) <;> (repeat (first | replace hb := Zas hb | replace hb := Zat hb)) <;> (try (exfalso; omega)))))
       all_goals (try (exfalso; first | contradiction | omega))
       all_goals (refine ⟨.inr rfl, ret1 rfl (.tmp rfl) (List.nil_sublist _) ⟨congrArg exB ?_, rfl⟩⟩)
       all_goals (first | rfl | (simp; done))
end Go.Proofs.YthdldeenpgeemaaGreatDoor
namespace Go.Proofs.YthdldeenpgeemaaGreatDoor
open Go Go.RowKit Go.Kx Go.Fr Go.Lx Go.ChangeShapes Go.WideShapes
theorem rdB : Reads Tryz.prog 4 eBool := reads_bool Tryz.underlying4
theorem rdCrit (K : Nat) : ReadsK Tryz.prog 70 K (eCrit) := by
 intro H enc w fuel cs x hK h hw
 obtain ⟨a0, h0⟩ := Zbv (K := K) Tryz.underlying70 h hw (by omega) 0 _ rfl (fits_str) (rdT.at _) 0 1 rfl (by kernel_rfl)
 obtain ⟨a1, h1⟩ := Zbv (K := K) Tryz.underlying70 h hw (by omega) 1 _ rfl (fits_int) (rdI.at _) 1 1 rfl (by kernel_rfl)
 obtain ⟨a2, h2⟩ := Zbv (K := K) Tryz.underlying70 h hw (by omega) 2 _ rfl (fits_int) (rdI.at _) 2 1 rfl (by kernel_rfl)
 obtain ⟨a3, h3⟩ := Zbv (K := K) Tryz.underlying70 h hw (by omega) 3 _ rfl (fits_int) (rdI.at _) 3 1 rfl (by kernel_rfl)
 obtain ⟨a4, h4⟩ := Zbv (K := K) Tryz.underlying70 h hw (by omega) 4 _ rfl (fits_int) (rdI.at _) 4 1 rfl (by kernel_rfl)
 obtain ⟨a5, h5⟩ := Zbv (K := K) Tryz.underlying70 h hw (by omega) 5 _ rfl (fits_int) (rdI.at _) 5 1 rfl (by kernel_rfl)
 obtain ⟨a6, h6⟩ := Zbv (K := K) Tryz.underlying70 h hw (by omega) 6 _ rfl (fits_bool') (rdB.at _) 6 1 rfl (by kernel_rfl)
 have hl := trod_len Tryz.underlying70 h (n := 7) (by kernel_rfl)
 exact ⟨⟨a0, a1, a2, a3, a4, a5, a6⟩, hl, (CellsR.parts h0 (CellsR.parts h1 (CellsR.parts h2 (CellsR.parts h3 (CellsR.parts h4 (CellsR.parts h5 (CellsR.parts h6 (CellsR.parts0 hl) rfl) rfl) rfl) rfl) rfl) rfl) rfl)⟩
theorem rdCrits (K : Nat) : ReadsK Tryz.prog 23 K (eSl (eCrit)) := readsK_slice Tryz.underlying23 (by kernel_rfl) (Nat.zero_lt_succ _) (by kernel_rfl) (rdCrit K)
theorem rdItem (K : Nat) : ReadsK Tryz.prog 106 K (eItem) := by
 intro H enc w fuel cs x hK h hw
 obtain ⟨a0, h0⟩ := Zbv (K := K) Tryz.underlying106 h hw (by omega) 0 _ rfl (fits_str) (rdT.at _) 0 1 rfl (by kernel_rfl)
 obtain ⟨a1, h1⟩ := Zbv (K := K) Tryz.underlying106 h hw (by omega) 1 _ rfl (fits_int) (rdI.at _) 1 1 rfl (by kernel_rfl)
 obtain ⟨a2, h2⟩ := Zbv (K := K) Tryz.underlying106 h hw (by omega) 2 _ rfl (fits_int) (rdI.at _) 2 1 rfl (by kernel_rfl)
 have hl := trod_len Tryz.underlying106 h (n := 3) (by kernel_rfl)
 exact ⟨⟨a0, a1, a2⟩, hl, (CellsR.parts h0 (CellsR.parts h1 (CellsR.parts h2 (CellsR.parts0 hl) rfl) rfl) rfl)⟩
theorem rdItems (K : Nat) : ReadsK Tryz.prog 24 K (eSl (eItem)) := readsK_slice Tryz.underlying24 (by kernel_rfl) (Nat.zero_lt_succ _) (by kernel_rfl) (rdItem K)
theorem rdKey (K : Nat) : ReadsK Tryz.prog 97 K (eKey) := by
 intro H enc w fuel cs x hK h hw
 obtain ⟨a0, h0⟩ := Zbv (K := K) Tryz.underlying97 h hw (by omega) 0 _ rfl (fits_int) (rdI.at _) 0 1 rfl (by kernel_rfl)
 obtain ⟨a1, h1⟩ := Zbv (K := K) Tryz.underlying97 h hw (by omega) 1 _ rfl (fits_str) (rdT.at _) 1 1 rfl (by kernel_rfl)
 obtain ⟨a2, h2⟩ := Zbv (K := K) Tryz.underlying97 h hw (by omega) 2 _ rfl (fits_int) (rdI.at _) 2 1 rfl (by kernel_rfl)
 have hl := trod_len Tryz.underlying97 h (n := 3) (by kernel_rfl)
 exact ⟨⟨a0, a1, a2⟩, hl, (CellsR.parts h0 (CellsR.parts h1 (CellsR.parts h2 (CellsR.parts0 hl) rfl) rfl) rfl)⟩
theorem rdKeys (K : Nat) : ReadsK Tryz.prog 72 K (eSl (eKey)) := readsK_slice Tryz.underlying72 (by kernel_rfl) (Nat.zero_lt_succ _) (by kernel_rfl) (rdKey K)
theorem rdTie (K : Nat) : ReadsK Tryz.prog 74 K (eTie) := by
 intro H enc w fuel cs x hK h hw
 obtain ⟨a0, h0⟩ := Zbv (K := K) Tryz.underlying74 h hw (by omega) 0 _ rfl (fits_str) (rdT.at _) 0 1 rfl (by kernel_rfl)
 obtain ⟨a1, h1⟩ := Zbv (K := K) Tryz.underlying74 h hw (by omega) 1 _ rfl (fits_isl) (rdKeys K) 1 1 rfl (by kernel_rfl)
 have hl := trod_len Tryz.underlying74 h (n := 2) (by kernel_rfl)
 exact ⟨⟨a0, a1⟩, hl, (CellsR.parts h0 (CellsR.parts h1 (CellsR.parts0 hl) rfl) rfl)⟩
theorem rdTies (K : Nat) : ReadsK Tryz.prog 25 K (eSl (eTie)) := readsK_slice Tryz.underlying25 (by kernel_rfl) (Nat.zero_lt_succ _) (by kernel_rfl) (rdTie K)
theorem rdInts (K : Nat) : ReadsK Tryz.prog 27 K (eSl eI) := readsK_slice Tryz.underlying27 (by kernel_rfl) (Nat.zero_lt_succ _) (by kernel_rfl) (rdI.at K)
theorem rdExpr : ∀ K : Nat, ReadsK Tryz.prog 52 K (eEx K)
 | 0 => .zero
 | K + 1 => by
   intro H enc w fuel cs x hK h hw
   have hs : ReadsK Tryz.prog 50 K (eSl (eEx K)) := readsK_slice Tryz.underlying50 (by kernel_rfl) (Nat.zero_lt_succ _) (by kernel_rfl) (rdExpr K)
   obtain ⟨a0, h0⟩ := Zbv (K := K) Tryz.underlying52 h hw (by omega) 0 _ rfl fits_int (rdI.at _) 0 1 rfl (by kernel_rfl)
   obtain ⟨a1, h1⟩ := Zbv (K := K) Tryz.underlying52 h hw (by omega) 1 _ rfl fits_str (rdT.at _) 1 1 rfl (by kernel_rfl)
   obtain ⟨a2, h2⟩ := Zbv (K := K) Tryz.underlying52 h hw (by omega) 2 _ rfl fits_int (rdI.at _) 2 1 rfl (by kernel_rfl)
   obtain ⟨a3, h3⟩ := Zbv (K := K) Tryz.underlying52 h hw (by omega) 3 _ rfl fits_int (rdI.at _) 3 1 rfl (by kernel_rfl)
   obtain ⟨a4, h4⟩ := Zbv (K := K) Tryz.underlying52 h hw (by omega) 4 _ rfl fits_isl hs 4 1 rfl (by kernel_rfl)
   have hl := trod_len Tryz.underlying52 h (n := 5) (by kernel_rfl)
   exact ⟨.mk a0 a1 a2 a3 a4, hl, (CellsR.parts h0 (CellsR.parts h1 (CellsR.parts h2 (CellsR.parts h3 (CellsR.parts h4 (CellsR.parts0 hl) rfl) rfl) rfl) rfl) rfl)⟩
theorem rdRound (K : Nat) : ReadsK Tryz.prog 54 K (eRound K) := by
 intro H enc w fuel cs x hK h hw
 obtain ⟨a0, h0⟩ := Zbv (K := K) Tryz.underlying54 h hw (by omega) 0 _ rfl (fits_str) (rdT.at _) 0 1 rfl (by kernel_rfl)
 obtain ⟨a1, h1⟩ := Zbv (K := K) Tryz.underlying54 h hw (by omega) 1 _ rfl (fits_int) (rdI.at _) 1 1 rfl (by kernel_rfl)
 obtain ⟨a2, h2⟩ := Zbv (K := K) Tryz.underlying54 h hw (by omega) 2 _ rfl (fits_int) (rdI.at _) 2 1 rfl (by kernel_rfl)
 obtain ⟨a3, h3⟩ := Zbv (K := K) Tryz.underlying54 h hw (by omega) 3 _ rfl (fits_int) (rdI.at _) 3 1 rfl (by kernel_rfl)
 obtain ⟨a4, h4⟩ := Zbv (K := K) Tryz.underlying54 h hw (by omega) 4 _ rfl (fits_bool') (rdB.at _) 4 1 rfl (by kernel_rfl)
 obtain ⟨a5, h5⟩ := Zbv (K := K) Tryz.underlying54 h hw (by omega) 5 _ rfl (fits_bool') (rdB.at _) 5 1 rfl (by kernel_rfl)
 obtain ⟨a6, h6⟩ := Zbv (K := K) Tryz.underlying54 h hw (by omega) 6 _ rfl (fits_encS) (rdExpr K) 6 5 rfl (by kernel_rfl)
 obtain ⟨a7, h7⟩ := Zbv (K := K) Tryz.underlying54 h hw (by omega) 7 _ rfl (fits_str) (rdT.at _) 11 1 rfl (by kernel_rfl)
 obtain ⟨a8, h8⟩ := Zbv (K := K) Tryz.underlying54 h hw (by omega) 8 _ rfl (fits_int) (rdI.at _) 12 1 rfl (by kernel_rfl)
 have hl := trod_len Tryz.underlying54 h (n := 13) (by kernel_rfl)
 exact ⟨⟨a0, a1, a2, a3, a4, a5, a6, a7, a8⟩, hl, (CellsR.parts h0 (CellsR.parts h1 (CellsR.parts h2 (CellsR.parts h3 (CellsR.parts h4 (CellsR.parts h5 (CellsR.parts h6 (CellsR.parts h7 (CellsR.parts h8 (CellsR.parts0 hl) rfl) rfl) rfl) rfl) rfl) rfl) rfl) rfl) rfl)⟩
theorem rdRounds (K : Nat) : ReadsK Tryz.prog 26 K (eSl (eRound K)) := readsK_slice Tryz.underlying26 (by kernel_rfl) (Nat.zero_lt_succ _) (by kernel_rfl) (rdRound K)
theorem rdRules (K : Nat) : ReadsK Tryz.prog 29 K (encS (rulesV K) 9 200) := by
 intro H enc w fuel cs x hK h hw
 obtain ⟨a0, h0⟩ := Zbv (K := K) Tryz.underlying29 h hw (by omega) 0 _ rfl (fits_str) (rdT.at _) 0 1 rfl (by kernel_rfl)
 obtain ⟨a1, h1⟩ := Zbv (K := K) Tryz.underlying29 h hw (by omega) 1 _ rfl (fits_isl) (rdCrits K) 1 1 rfl (by kernel_rfl)
 obtain ⟨a2, h2⟩ := Zbv (K := K) Tryz.underlying29 h hw (by omega) 2 _ rfl (fits_isl) (rdItems K) 2 1 rfl (by kernel_rfl)
 obtain ⟨a3, h3⟩ := Zbv (K := K) Tryz.underlying29 h hw (by omega) 3 _ rfl (fits_isl) (rdItems K) 3 1 rfl (by kernel_rfl)
 obtain ⟨a4, h4⟩ := Zbv (K := K) Tryz.underlying29 h hw (by omega) 4 _ rfl (fits_isl) (rdTies K) 4 1 rfl (by kernel_rfl)
 obtain ⟨a5, h5⟩ := Zbv (K := K) Tryz.underlying29 h hw (by omega) 5 _ rfl (fits_isl) (rdRounds K) 5 1 rfl (by kernel_rfl)
 obtain ⟨a6, h6⟩ := Zbv (K := K) Tryz.underlying29 h hw (by omega) 6 _ rfl (fits_isl) (rdInts K) 6 1 rfl (by kernel_rfl)
 obtain ⟨a7, h7⟩ := Zbv (K := K) Tryz.underlying29 h hw (by omega) 7 _ rfl (fits_isl) (rdInts K) 7 1 rfl (by kernel_rfl)
 obtain ⟨a8, h8⟩ := Zbv (K := K) Tryz.underlying29 h hw (by omega) 8 _ rfl (fits_int) (rdI.at _) 8 1 rfl (by kernel_rfl)
 have hl := trod_len Tryz.underlying29 h (n := 9) (by kernel_rfl)
 exact ⟨⟨a0, a1, a2, a3, a4, a5, a6, a7, a8⟩, hl, (CellsR.parts h0 (CellsR.parts h1 (CellsR.parts h2 (CellsR.parts h3 (CellsR.parts h4 (CellsR.parts h5 (CellsR.parts h6 (CellsR.parts h7 (CellsR.parts h8 (CellsR.parts0 hl) rfl) rfl) rfl) rfl) rfl) rfl) rfl) rfl) rfl)⟩
instance {k : Nat} : LenS (rulesV k) 9 := ⟨fun _ => rfl⟩
theorem arg_rules {W : World} {v : Value} (h : ArgIn Tryz.prog W 29 v) : ∃ (K : Nat) (r : RulesD), (rul K r).rel (fun _ => True) W v := ArgIn.agg (gs := rulesV) h Tryz.underlying29 rdRules fun _ => fits_encS
end Go.Proofs.YthdldeenpgeemaaGreatDoor
