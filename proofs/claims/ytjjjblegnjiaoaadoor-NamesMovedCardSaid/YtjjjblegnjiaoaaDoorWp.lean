/- Declarations with other numbers in their references: they resolve alike. No program in sight. -/
import Derived.Test.YtjjjblegnjiaoaaDoorPart3
import Derived.Test.YtjjjblegnjiaoaaDoorPart4
namespace Go.Fr
open Go.RowKit Go.Kx
namespace Ex
mutual
def shk (m : Int) : Ex → Ex
  | mk k s n d l => mk k s (if k = 2 ∨ k = 5 then IntKind.i64.wrap (n + m) else n) d (shks m l)
def shks (m : Int) : List Ex → List Ex
  | [] => []
  | x :: xs => shk m x :: shks m xs
end
theorem shks_map (m : Int) : ∀ l : List Ex, shks m l = l.map (shk m)
  | [] => rfl
  | x :: xs => by simp [shks, shks_map m xs]
theorem shk_l (m : Int) (x : Ex) : x.shk m = mk x.kind x.name (if x.kind = 2 ∨ x.kind = 5 then IntKind.i64.wrap (x.n + m) else x.n) x.d (x.l.map (shk m)) := by cases x; simp [shk, shks_map, kind, name, n, d, l]; rfl
mutual
theorem shk_same (m : Int) (l0 l3 : List (List UInt8)) : ∀ x : Ex, (x.shk m).res l0 l3 = x.res l0 l3 ∧ (x.shk m).ok l0 l3 = x.ok l0 l3 ∧ (x.shk m).tot = x.tot ∧ (x.shk m).depth = x.depth
  | mk k s n d l => by
    obtain ⟨h1, h2, h3, h4⟩ := shks_same m l0 l3 l
    simp only [shk, res, ok, tot, depth, h1, h2, h3, h4]
    refine ⟨?_, trivial, trivial, trivial⟩
    simp only [mk.injEq, true_and, and_true]
    unfold refN
    by_cases k2 : k = 2
    · simp [k2]
    · by_cases k5 : k = 5
      · simp [k5]
      · simp [k2, k5]
theorem shks_same (m : Int) (l0 l3 : List (List UInt8)) : ∀ x : List Ex, ress l0 l3 (shks m x) = ress l0 l3 x ∧ oks l0 l3 (shks m x) = oks l0 l3 x ∧ tots (shks m x) = tots x ∧ depths (shks m x) = depths x
  | [] => ⟨rfl, rfl, rfl, rfl⟩
  | x :: xs => by
    obtain ⟨h1, h2, h3, h4⟩ := shk_same m l0 l3 x
    obtain ⟨k1, k2, k3, k4⟩ := shks_same m l0 l3 xs
    simp only [shks, ress, oks, tots, depths, h1, h2, h3, h4, k1, k2, k3, k4]
    exact ⟨trivial, trivial, trivial, trivial⟩
end
mutual
theorem res_same (l0 l3 : List (List UInt8)) : ∀ x : Ex, (x.res l0 l3).res l0 l3 = x.res l0 l3 ∧ (x.res l0 l3).ok l0 l3 = x.ok l0 l3 ∧ (x.res l0 l3).tot = x.tot ∧ (x.res l0 l3).depth = x.depth
  | mk k s n d l => by
    obtain ⟨h1, h2, h3, h4⟩ := ress_same l0 l3 l
    simp only [res, ok, tot, depth, h1, h2, h3, h4]
    refine ⟨?_, trivial, trivial, trivial⟩
    simp only [mk.injEq, true_and, and_true]
    unfold refN
    by_cases k2 : k = 2
    · simp [k2]
    · by_cases k5 : k = 5
      · simp [k5]
      · simp [k2, k5]
theorem ress_same (l0 l3 : List (List UInt8)) : ∀ x : List Ex, ress l0 l3 (ress l0 l3 x) = ress l0 l3 x ∧ oks l0 l3 (ress l0 l3 x) = oks l0 l3 x ∧ tots (ress l0 l3 x) = tots x ∧ depths (ress l0 l3 x) = depths x
  | [] => ⟨rfl, rfl, rfl, rfl⟩
  | x :: xs => by
    obtain ⟨h1, h2, h3, h4⟩ := res_same l0 l3 x
    obtain ⟨k1, k2, k3, k4⟩ := ress_same l0 l3 xs
    simp only [ress, oks, tots, depths, h1, h2, h3, h4, k1, k2, k3, k4]
    exact ⟨trivial, trivial, trivial, trivial⟩
end
end Ex
def keyChg (m : Int) (q : KeyD) : KeyD := { q with n := if q.kind = 1 ∨ q.kind = 2 ∨ q.kind = 5 then IntKind.i64.wrap (q.n - m) else q.n }
theorem keyChg_same (m : Int) (l0 l2 l3 : List (List UInt8)) (q : KeyD) : keyN l0 l2 l3 (keyChg m q) = keyN l0 l2 l3 q ∧ keyOk l0 l2 l3 (keyChg m q) = keyOk l0 l2 l3 q := by
  refine ⟨?_, rfl⟩
  unfold keyN keyChg
  by_cases h1 : q.kind = 1
  · simp [h1]
  · by_cases h2 : q.kind = 2
    · simp [h2]
    · by_cases h5 : q.kind = 5
      · simp [h5]
      · simp [h1, h2, h5]
theorem keyN_same (l0 l2 l3 : List (List UInt8)) (q : KeyD) : keyN l0 l2 l3 (keyN l0 l2 l3 q) = keyN l0 l2 l3 q ∧ keyOk l0 l2 l3 (keyN l0 l2 l3 q) = keyOk l0 l2 l3 q := by
  refine ⟨?_, rfl⟩
  unfold keyN
  by_cases h1 : q.kind = 1
  · simp [h1]
  · by_cases h2 : q.kind = 2
    · simp [h2]
    · by_cases h5 : q.kind = 5
      · simp [h5]
      · simp [h1, h2, h5]
namespace RulesD
def tieChg (m : Int) (t : TieD) : TieD := { t with keys := t.keys.map (keyChg m) }
def roundChg (m : Int) (y : RoundD) : RoundD := { y with score := y.score.shk m, tieNo := m }
def chg (m : Int) (r : RulesD) : RulesD := { r with ties := r.ties.map (tieChg m), rounds := r.rounds.map (roundChg m) }
/-- What resolving sees of a declaration. -/
structure Like (r r' : RulesD) : Prop where
  name : r'.name = r.name
  crits : r'.crits = r.crits
  bonus : r'.bonus = r.bonus
  malus : r'.malus = r.malus
  prizes : r'.prizes = r.prizes
  points : r'.points = r.points
  best : r'.best = r.best
  ties : ∃ g : TieD → TieD, r'.ties = r.ties.map g ∧ ∀ t, (g t).name = t.name ∧ (g t).keys.length = t.keys.length ∧ (g t).keys.map (keyN r.n0 r.n2 r.n3) = t.keys.map (keyN r.n0 r.n2 r.n3) ∧ (g t).keys.all (keyOk r.n0 r.n2 r.n3) = t.keys.all (keyOk r.n0 r.n2 r.n3)
  rounds : ∃ h : RoundD → RoundD, r'.rounds = r.rounds.map h ∧ ∀ y, (h y).name = y.name ∧ (h y).score.tot = y.score.tot ∧ (h y).score.depth = y.score.depth ∧ r.roundN (h y) = r.roundN y ∧ r.roundOk (h y) = r.roundOk y
theorem Like.all {r r' : RulesD} (H : Like r r') (fr : List UInt8 → Bool) : r'.resolve fr = r.resolve fr ∧ r'.few = r.few := by
  obtain ⟨h1, h2, h3, h4, h5, h6, h7, ⟨g, hg, hg'⟩, h, hh, hh'⟩ := H
  have e0 : r'.n0 = r.n0 := by unfold n0; rw [h2]
  have e1 : r'.n1 = r.n1 := by unfold n1; rw [h3, h4]
  have e2 : r'.n2 = r.n2 := by
    unfold n2; rw [hg, List.map_map]
    exact List.map_congr_left fun t _ => (hg' t).1
  have e3 : r'.n3 = r.n3 := by
    unfold n3; rw [hh, List.map_map]
    exact List.map_congr_left fun y _ => (hh' y).1
  have elt : r'.ties.length = r.ties.length := by rw [hg, List.length_map]
  have elr : r'.rounds.length = r.rounds.length := by rw [hh, List.length_map]
  have et : r'.tieN = r.tieN := by funext t; unfold tieN; rw [e0, e2, e3]
  have er : r'.roundN = r.roundN := by funext y; unfold roundN; rw [e0, e2, e3]
  have eo : r'.tieOk = r.tieOk := by funext t; unfold tieOk; rw [e0, e2, e3]
  have eq : r'.roundOk = r.roundOk := by funext y; unfold roundOk; rw [e0, e2, e3]
  have mt : r'.ties.map r'.tieN = r.ties.map r.tieN := by
    rw [et, hg, List.map_map]
    refine List.map_congr_left fun t _ => ?_
    show r.tieN (g t) = r.tieN t
    obtain ⟨k1, _, k3, _⟩ := hg' t
    unfold tieN
    rw [k3]
    generalize g t = x at k1 ⊢
    cases x; cases t; simp_all
  have mr : r'.rounds.map r'.roundN = r.rounds.map r.roundN := by
    rw [er, hh, List.map_map]
    exact List.map_congr_left fun y _ => (hh' y).2.2.2.1
  have ao : r'.allOk = r.allOk := by
    unfold allOk
    rw [eo, eq, hg, hh, List.all_map, List.all_map]
    congr 1
    · congr 1; funext t; exact (hg' t).2.2.2
    · congr 1; funext y; exact (hh' y).2.2.2.2
  have rs : r'.resolved = r.resolved := by
    unfold resolved
    rw [mt, mr]
    cases r'; cases r; simp_all
  have lg : r'.large = r.large := by
    unfold large big
    rw [h2, h3, h4, h5, h6, elt, elr, hg, hh, List.any_map, List.any_map]
    congr 2
    · congr 1; funext t; simp only [Function.comp, (hg' t).2.1]
    · congr 1; funext y; simp only [Function.comp, (hh' y).2.1, (hh' y).2.2.1]
  have on : r'.once = r.once := by unfold once; rw [e0, e1, e2, e3]
  constructor
  · unfold resolve
    rw [lg, h1, e0, e1, e2, e3, on, ao, rs]
  · unfold few
    rw [h2, h3, h4, h5, h6, elt, elr, hg, hh, List.all_map, List.all_map]
    congr 2
    · congr 1; funext t; simp only [Function.comp, (hg' t).2.1]
    · congr 1; funext y; simp only [Function.comp, (hh' y).2.1]
theorem like_chg (m : Int) (r : RulesD) : Like r (r.chg m) := by
  refine ⟨rfl, rfl, rfl, rfl, rfl, rfl, rfl, ⟨tieChg m, rfl, fun t => ⟨rfl, List.length_map _, ?_, ?_⟩⟩, ⟨roundChg m, rfl, fun y => ⟨rfl, ?_, ?_, ?_, ?_⟩⟩⟩
  · show (t.keys.map (keyChg m)).map _ = _
    rw [List.map_map]
    exact List.map_congr_left fun q _ => (keyChg_same m _ _ _ q).1
  · show (t.keys.map (keyChg m)).all _ = _
    rw [List.all_map]
    congr 1
  · exact (Ex.shk_same m [] [] y.score).2.2.1
  · exact (Ex.shk_same m [] [] y.score).2.2.2
  · have := (Ex.shk_same m r.n0 r.n3 y.score).1
    simp only [roundN, roundChg, this]; rfl
  · have := (Ex.shk_same m r.n0 r.n3 y.score).2.1
    simp only [roundOk, roundChg, this]; rfl
theorem like_resolved (r : RulesD) : Like r r.resolved := by
  refine ⟨rfl, rfl, rfl, rfl, rfl, rfl, rfl, ⟨r.tieN, rfl, fun t => ⟨rfl, List.length_map _, ?_, ?_⟩⟩, ⟨r.roundN, rfl, fun y => ⟨rfl, ?_, ?_, ?_, ?_⟩⟩⟩
  · show (t.keys.map (keyN r.n0 r.n2 r.n3)).map _ = _
    rw [List.map_map]
    exact List.map_congr_left fun q _ => (keyN_same _ _ _ q).1
  · show (t.keys.map (keyN r.n0 r.n2 r.n3)).all _ = _
    rw [List.all_map]
    congr 1
  · exact (Ex.res_same r.n0 r.n3 y.score).2.2.1
  · exact (Ex.res_same r.n0 r.n3 y.score).2.2.2
  · have := (Ex.res_same r.n0 r.n3 y.score).1
    simp only [roundN, this]; rfl
  · have := (Ex.res_same r.n0 r.n3 y.score).2.1
    simp only [roundOk, roundN, this]; rfl
end RulesD
end Go.Fr
