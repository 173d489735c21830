/- RulesOrder: the plain law: tie rules that are put into an order, turn by turn. No program in sight. -/
import Derived.Test.YthldagplhklbnaaGreatDoorPart8
import Derived.Test.YthldagplhklbnaaGreatDoorPart7
import Derived.Test.YthldagplhklbnaaGreatDoorPart6
namespace Go.Fr
open Go.RowKit Go.Kx
structure OS where
 done : List Bool
 many : List Nat
 short : Bool
def okStep (s : OS) (a : Bool × Nat) (k : KeyD) : Bool × Nat := if k.kind ≠ 5 then (a.1, a.2 + 1) else if s.done.getD k.n.toNat false = true then (a.1, a.2 + s.many.getD k.n.toNat 0) else (false, a.2)
def oSum (ties : List TieD) (s : OS) (i : Nat) : Bool × Nat := (keysAt ties i).foldl (okStep s) (!s.done.getD i false, 0)
def oRow (ties : List TieD) (s : OS) (i : Nat) : OS := if (oSum ties s i).1 = true then ⟨s.done.set i true, s.many.set i (oSum ties s i).2, s.short && decide ((oSum ties s i).2 ≤ 32)⟩ else s
def oPart (ties : List TieD) (s : OS) (i : Nat) : OS := (List.range i).foldl (oRow ties) s
def oRun (ties : List TieD) : Nat → OS
 | 0 => ⟨List.replicate ties.length false, List.replicate ties.length 0, true⟩
 | t + 1 => oPart ties (oRun ties t) ties.length
theorem oPart_succ (ties : List TieD) (s : OS) (i : Nat) : oPart ties s (i + 1) = oRow ties (oPart ties s i) i := by
 unfold oPart; rw [List.range_succ, List.foldl_append]; rfl
theorem fold_ready {s : OS} : ∀ (l : List KeyD) (a : Bool × Nat), (l.foldl (okStep s) a).1 = true ↔ a.1 = true ∧ ∀ k ∈ l, k.kind = 5 → s.done.getD k.n.toNat false = true
 | [], a => by simp
 | k :: l, a => by
   rw [List.foldl_cons, fold_ready l]
   unfold okStep
   by_cases h5 : k.kind = 5
   · rw [if_neg (by simpa using h5)]
     by_cases hd : s.done.getD k.n.toNat false = true
     · rw [if_pos hd]
       constructor
       · rintro ⟨h1, h2⟩
         refine ⟨h1, fun x hx hx5 => ?_⟩
         rcases List.mem_cons.1 hx with rfl | hx
         · exact hd
         · exact h2 x hx hx5
       · rintro ⟨h1, h2⟩
         exact ⟨h1, fun x hx hx5 => h2 x (List.mem_cons_of_mem _ hx) hx5⟩
     · rw [if_neg hd]
       constructor
       · rintro ⟨h1, -⟩; cases h1
       · rintro ⟨-, h2⟩; exact absurd (h2 k List.mem_cons_self h5) hd
   · rw [if_pos h5]
     constructor
     · rintro ⟨h1, h2⟩
       refine ⟨h1, fun x hx hx5 => ?_⟩
       rcases List.mem_cons.1 hx with rfl | hx
       · exact absurd hx5 h5
       · exact h2 x hx hx5
     · rintro ⟨h1, h2⟩
       exact ⟨h1, fun x hx hx5 => h2 x (List.mem_cons_of_mem _ hx) hx5⟩
theorem fold_sum {s : OS} {F : Nat → List KeyD} : ∀ (l : List KeyD) (a : Bool × Nat), (∀ k ∈ l, k.kind = 5 → s.done.getD k.n.toNat false = true ∧ s.many.getD k.n.toNat 0 = (F k.n.toNat).length) → (l.foldl (okStep s) a).2 = a.2 + (l.flatMap (exd F)).length
 | [], a, _ => by simp
 | k :: l, a, h => by
   rw [List.foldl_cons, fold_sum l _ fun x hx => h x (List.mem_cons_of_mem _ hx), List.flatMap_cons, List.length_append]
   unfold okStep exd
   by_cases h5 : k.kind = 5
   · obtain ⟨h1, h2⟩ := h k List.mem_cons_self h5
     rw [if_neg (by simpa using h5), if_pos h1, if_pos h5, h2]
     show a.2 + _ + _ = _; omega
   · rw [if_pos h5, if_neg h5]
     show a.2 + 1 + _ = _; simp; omega
theorem fold_le {s : OS} {B : Nat} (hB : ∀ j, s.many.getD j 0 ≤ B) (h1 : 1 ≤ B) : ∀ (l : List KeyD) (a : Bool × Nat), (l.foldl (okStep s) a).2 ≤ a.2 + l.length * B
 | [], a => by simp
 | k :: l, a => by
   rw [List.foldl_cons, List.length_cons, Nat.succ_mul]
   refine Nat.le_trans (fold_le hB h1 l _) ?_
   have : (okStep s a k).2 ≤ a.2 + B := by
     unfold okStep
     split
     · show a.2 + 1 ≤ _; omega
     · split
       · show a.2 + _ ≤ _
         have := hB k.n.toNat
         omega
       · show a.2 ≤ _; omega
   omega
theorem getD_setB {l : List Bool} {i j : Nat} {x : Bool} (h : i < l.length) : (l.set i x).getD j false = if i = j then x else l.getD j false := by
 rw [List.getD_eq_getElem?_getD, List.getD_eq_getElem?_getD, List.getElem?_set]
 split
 · rename_i e; subst e; rfl
 · rfl
theorem getD_setN {l : List Nat} {i j : Nat} {x : Nat} (h : i < l.length) : (l.set i x).getD j 0 = if i = j then x else l.getD j 0 := by
 rw [List.getD_eq_getElem?_getD, List.getD_eq_getElem?_getD, List.getElem?_set]
 split
 · rename_i e; subst e; rfl
 · rfl
structure OS.inv (ties : List TieD) (s : OS) : Prop where
 ld : s.done.length = ties.length
 lm : s.many.length = ties.length
 ex : ∃ (rk : Nat → Nat) (F : Nat → List KeyD), (∀ i, i < ties.length → s.done.getD i false = true → (∀ k ∈ keysAt ties i, k.kind = 5 → s.done.getD k.n.toNat false = true ∧ rk k.n.toNat < rk i) ∧ F i = (keysAt ties i).flatMap (exd F) ∧ s.many.getD i 0 = (F i).length) ∧ (s.short = true ↔ ∀ i, i < ties.length → s.done.getD i false = true → (F i).length ≤ 32)
theorem oRow_inv {ties : List TieD} (hk : Hk ties) {s : OS} (h : s.inv ties) {i : Nat} (hi : i < ties.length) : (oRow ties s i).inv ties := by
 unfold oRow
 by_cases hr : (oSum ties s i).1 = true
 · rw [if_pos hr]
   obtain ⟨hnd, hrefs⟩ := (fold_ready (s := s) (keysAt ties i) _).1 hr
   have hnd : s.done.getD i false = false := by simpa using hnd
   obtain ⟨hld, hlm, rk, F, hA, hS⟩ := h
   have hid : i < s.done.length := by omega
   have him : i < s.many.length := by omega
   have hne : ∀ j, s.done.getD j false = true → i ≠ j := fun j hj e => by subst e; rw [hnd] at hj; cases hj
   have hsum : (oSum ties s i).2 = ((keysAt ties i).flatMap (exd F)).length := by
     unfold oSum
     rw [fold_sum (F := F)]
     · show 0 + _ = _; omega
     · exact fun k hkm h5 => ⟨hrefs k hkm h5, (hA _ ((hk i hi).2 k hkm h5) (hrefs k hkm h5)).2.2⟩
   obtain ⟨M, hM⟩ := rk_top rk ties.length
   obtain ⟨G, hGi, hGne⟩ : ∃ G : Nat → List KeyD, G i = (keysAt ties i).flatMap (exd F) ∧ ∀ j, i ≠ j → G j = F j := ⟨fun j => if j = i then (keysAt ties i).flatMap (exd F) else F j, if_pos rfl, fun j hj => if_neg (Ne.symm hj)⟩
   obtain ⟨R, hRi, hRne⟩ : ∃ R : Nat → Nat, R i = M ∧ ∀ j, i ≠ j → R j = rk j := ⟨fun j => if j = i then M else rk j, if_pos rfl, fun j hj => if_neg (Ne.symm hj)⟩
   have hF' : ∀ l : List KeyD, (∀ k ∈ l, k.kind = 5 → s.done.getD k.n.toNat false = true) → l.flatMap (exd G) = l.flatMap (exd F) := fun l hl => by
     refine flatMap_congr' fun k hkm => ?_
     unfold exd
     by_cases h5 : k.kind = 5
     · rw [if_pos h5, if_pos h5, hGne _ (hne _ (hl k hkm h5))]
     · rw [if_neg h5, if_neg h5]
   refine ⟨by simp [hld], by simp [hlm], R, G, fun j hj hjd => ?_, ?_⟩
   · show (∀ k ∈ keysAt ties j, k.kind = 5 → (s.done.set i true).getD k.n.toNat false = true ∧ _) ∧ _ ∧ (s.many.set i (oSum ties s i).2).getD j 0 = _
     have hjd : (s.done.set i true).getD j false = true := hjd
     by_cases hij : i = j
     · subst hij
       rw [getD_setN him, if_pos rfl, hF' _ hrefs, hGi, hRi]
       refine ⟨fun k hkm h5 => ?_, rfl, hsum⟩
       have h1 := hrefs k hkm h5
       have h2 := hne _ h1
       rw [getD_setB hid, if_neg h2, hRne _ h2]
       exact ⟨h1, hM _ ((hk i hi).2 k hkm h5)⟩
     · rw [getD_setB hid, if_neg hij] at hjd
       obtain ⟨q1, q2, q3⟩ := hA j hj hjd
       rw [getD_setN him, if_neg hij, hF' _ fun k hkm h5 => (q1 k hkm h5).1, hGne _ hij, hRne _ hij]
       refine ⟨fun k hkm h5 => ?_, q2, q3⟩
       obtain ⟨h1, h3⟩ := q1 k hkm h5
       have h2 := hne _ h1
       rw [getD_setB hid, if_neg h2, hRne _ h2]
       exact ⟨h1, h3⟩
   · show (s.short && decide ((oSum ties s i).2 ≤ 32)) = true ↔ ∀ j, j < ties.length → (s.done.set i true).getD j false = true → _
     rw [Bool.and_eq_true, decide_eq_true_iff, hS, hsum]
     constructor
     · rintro ⟨h1, h2⟩ j hj hjd
       by_cases hij : i = j
       · subst hij; rw [hGi]; exact h2
       · rw [getD_setB hid, if_neg hij] at hjd
         rw [hGne _ hij]; exact h1 j hj hjd
     · intro h1
       refine ⟨fun j hj hjd => ?_, ?_⟩
       · have hij := hne j hjd
         have := h1 j hj (by rw [getD_setB hid, if_neg hij]; exact hjd)
         rwa [hGne _ hij] at this
       · have := h1 i hi (by rw [getD_setB hid, if_pos rfl])
         rwa [hGi] at this
 · rw [if_neg hr]; exact h
theorem oPart_inv {ties : List TieD} (hk : Hk ties) {s : OS} (h : s.inv ties) : ∀ i, i ≤ ties.length → (oPart ties s i).inv ties
 | 0, _ => h
 | i + 1, hi => by rw [oPart_succ]; exact oRow_inv hk (oPart_inv hk h i (by omega)) (by omega)
theorem oRun_inv {ties : List TieD} (hk : Hk ties) : ∀ t, (oRun ties t).inv ties
 | 0 => by
   have hd : ∀ i : Nat, (List.replicate ties.length false).getD i false = false := fun i => by
     rw [List.getD_eq_getElem?_getD, List.getElem?_replicate]; split <;> rfl
   refine ⟨by simp [oRun], by simp [oRun], fun _ => 0, fun _ => [], fun i _ h => ?_, ⟨fun _ i _ h => ?_, fun _ => rfl⟩⟩
   · have : (List.replicate ties.length false).getD i false = true := h
     rw [hd] at this; cases this
   · have : (List.replicate ties.length false).getD i false = true := h
     rw [hd] at this; cases this
 | t + 1 => oPart_inv hk (oRun_inv hk t) _ (Nat.le_refl _)
theorem oRow_le {ties : List TieD} {s : OS} (h : s.inv ties) (h4 : ∀ i, i < ties.length → (keysAt ties i).length ≤ 4) {m i : Nat} (hi : i < ties.length) (hB : ∀ j, s.many.getD j 0 ≤ 4 ^ m) : ∀ j, (oRow ties s i).many.getD j 0 ≤ 4 ^ (m + 1) := by
 have hp : 4 ^ (m + 1) = 4 * 4 ^ m := by rw [Nat.pow_succ, Nat.mul_comm]
 have h0 : 0 < 4 ^ m := Nat.pow_pos (by omega)
 intro j
 unfold oRow
 split
 · show (s.many.set i (oSum ties s i).2).getD j 0 ≤ _
   rw [getD_setN (by rw [h.lm]; exact hi)]
   split
   · have h1 := fold_le (s := s) hB h0 (keysAt ties i) (!s.done.getD i false, 0)
     have h2 : (keysAt ties i).length * 4 ^ m ≤ 4 * 4 ^ m := Nat.mul_le_mul_right _ (h4 i hi)
     unfold oSum
     simp only [Nat.zero_add] at h1
     omega
   · have := hB j; omega
 · have := hB j; omega
theorem oPart_le {ties : List TieD} (hk : Hk ties) {s : OS} (h : s.inv ties) (h4 : ∀ i, i < ties.length → (keysAt ties i).length ≤ 4) {m : Nat} (hB : ∀ j, s.many.getD j 0 ≤ 4 ^ m) : ∀ i, i ≤ ties.length → ∀ j, (oPart ties s i).many.getD j 0 ≤ 4 ^ (m + i)
 | 0, _ => hB
 | i + 1, hi => by
   rw [oPart_succ]
   exact oRow_le (oPart_inv hk h i (by omega)) h4 (by omega) (oPart_le hk h h4 hB i (by omega))
theorem oRun_le {ties : List TieD} (hk : Hk ties) (h4 : ∀ i, i < ties.length → (keysAt ties i).length ≤ 4) : ∀ t j, (oRun ties t).many.getD j 0 ≤ 4 ^ (t * ties.length)
 | 0, j => by
   show (List.replicate ties.length 0).getD j 0 ≤ _
   rw [List.getD_eq_getElem?_getD, List.getElem?_replicate]
   split <;> simp
 | t + 1, j => by
   rw [Nat.succ_mul]
   exact oPart_le hk (oRun_inv hk t) h4 (oRun_le hk h4 t) _ (Nat.le_refl _) j
theorem oRow_keep {ties : List TieD} {s : OS} {i j : Nat} (h : s.done.getD j false = true) : (oRow ties s i).done.getD j false = true := by
 unfold oRow
 split
 · show (s.done.set i true).getD j false = true
   by_cases hi : i < s.done.length
   · rw [getD_setB hi]; split
     · rfl
     · exact h
   · rw [List.set_eq_of_length_le (by omega)]; exact h
 · exact h
theorem oPart_keep {ties : List TieD} {s : OS} {j : Nat} (h : s.done.getD j false = true) : ∀ i, (oPart ties s i).done.getD j false = true
 | 0 => h
 | i + 1 => by rw [oPart_succ]; exact oRow_keep (oPart_keep h i)
theorem oRow_hit {ties : List TieD} {s : OS} (hs : s.inv ties) {i : Nat} (hi : i < ties.length) (h : ∀ k ∈ keysAt ties i, k.kind = 5 → s.done.getD k.n.toNat false = true) : (oRow ties s i).done.getD i false = true := by
 by_cases hd : s.done.getD i false = true
 · exact oRow_keep hd
 · have hr : (oSum ties s i).1 = true := (fold_ready (s := s) _ _).2 ⟨by simpa using hd, h⟩
   unfold oRow
   rw [if_pos hr]
   show (s.done.set i true).getD i false = true
   rw [getD_setB (by rw [hs.ld]; exact hi), if_pos rfl]
theorem oPart_hit {ties : List TieD} (hk : Hk ties) {s : OS} (hs : s.inv ties) {i : Nat} (hi : i < ties.length) (h : ∀ k ∈ keysAt ties i, k.kind = 5 → s.done.getD k.n.toNat false = true) : ∀ m, i < m → m ≤ ties.length → (oPart ties s m).done.getD i false = true
 | 0, h1, _ => absurd h1 (Nat.not_lt_zero _)
 | m + 1, h1, h2 => by
   rw [oPart_succ]
   by_cases him : i = m
   · subst him
     exact oRow_hit (oPart_inv hk hs i (by omega)) hi fun k hkm h5 => oPart_keep (h k hkm h5) _
   · exact oRow_keep (oPart_hit hk hs hi h m (by omega) (by omega))
theorem oRun_rank {ties : List TieD} {rk : Nat → Nat} (hk : Hk ties) (hr : Ranked ties rk) : ∀ (t i : Nat), i < ties.length → rk i < t → (oRun ties t).done.getD i false = true
 | 0, _, _, h => absurd h (Nat.not_lt_zero _)
 | t + 1, i, hi, h => by
   refine oPart_hit hk (oRun_inv hk t) hi (fun k hkm h5 => ?_) _ hi (Nat.le_refl _)
   have := hr i hi k hkm h5
   exact oRun_rank hk hr t _ ((hk i hi).2 k hkm h5) (by omega)
theorem order_law {ties : List TieD} (hk : Hk ties) : ((∃ i, i < ties.length ∧ (oRun ties ties.length).done.getD i false = false) → (expansionF ties).2 = 151) ∧ ((∀ i, i < ties.length → (oRun ties ties.length).done.getD i false = true) → ((oRun ties ties.length).short = false → (expansionF ties).2 = 2) ∧ ((oRun ties ties.length).short = true → (expansionF ties).2 = 0)) := by
 constructor
 · rintro ⟨i, hi, h⟩
   have hna : ¬ Acyc ties := fun e => by
     obtain ⟨rk, hr, hl⟩ := acyc_low hk e
     have := oRun_rank hk hr ties.length i hi (hl i hi)
     rw [h] at this; cases this
   rw [expansionF_circle hk hna]
 · intro h
   obtain ⟨_, _, rk, F, hA, hS⟩ := oRun_inv hk ties.length
   have hr : Ranked ties rk := fun i hi k hkm h5 => ((hA i hi (h i hi)).1 k hkm h5).2
   have hF : Full ties F := fun i hi => (hA i hi (h i hi)).2.1
   obtain ⟨h1, h2⟩ := expansionF_acyc hk hr hF
   refine ⟨fun hs => ?_, fun hs => ?_⟩
   · have hex : ∃ i, i < ties.length ∧ 32 < (F i).length := Classical.byContradiction fun e => by
       have : (oRun ties ties.length).short = true := hS.2 fun i hi _ => Classical.byContradiction fun e2 => e ⟨i, hi, by omega⟩
       rw [hs] at this; cases this
     rw [h1 hex]
   · rw [h2 fun i hi => hS.1 hs i hi (h i hi)]
end Go.Fr
namespace Go.Fr
open Go.RowKit Go.Kx
def cntV (n : Nat) : List SP := [exI .i64 (n : Int)]
instance {n : Nat} : Scs (cntV n) := by unfold cntV; infer_instance
theorem rep_bool {n : Nat} : List.replicate n (ex (.bool false)) = (List.replicate n false).flatMap boolV := by
 induction n with
 | zero => rfl
 | succ n ih => rw [List.replicate_succ, List.replicate_succ, List.flatMap_cons, ih]; rfl
theorem rep_nat {n : Nat} : List.replicate n (ex (.int .i64 0)) = (List.replicate n 0).flatMap cntV := by
 induction n with
 | zero => rfl
 | succ n ih => rw [List.replicate_succ, List.replicate_succ, List.flatMap_cons, ih]; rfl
theorem flat_get0 {α : Type} {fs : α → List SP} (h0 : ∀ a, (fs a).length = 1) (l : List α) (i : Nat) (hi : i < l.length) (p : SP) (h : (fs l[i])[0]? = some p) : (l.flatMap fs)[0 + i * 1]? = some p := by
 have := flat_drop h0 l i hi
 rw [Nat.zero_add, show i * 1 = i * 1 + 0 from rfl, ← List.getElem?_drop, this, List.getElem?_append_left (by rw [h0]; decide)]
 exact h
theorem get_bool {l : List Bool} {i : Nat} (h : i < l.length) : (l.flatMap boolV)[0 + i * 1]? = some (exB (l.getD i false)) :=
 flat_get0 (fs := boolV) (fun _ => rfl) l i h _ (by rw [List.getD_eq_getElem?_getD, List.getElem?_eq_getElem h]; rfl)
theorem get_nat {l : List Nat} {i : Nat} (h : i < l.length) : (l.flatMap cntV)[0 + i * 1]? = some (exI .i64 ((l.getD i 0 : Nat) : Int)) :=
 flat_get0 (fs := cntV) (fun _ => rfl) l i h _ (by rw [List.getD_eq_getElem?_getD, List.getElem?_eq_getElem h]; rfl)
theorem set_bool {l : List Bool} {i : Nat} {x : Bool} (h : i < l.length) : (l.flatMap boolV).set (0 + i * 1) (exB x) = (l.set i x).flatMap boolV := by
 rw [Nat.zero_add]; exact flat_set1 (fs := boolV) (s := 1) (fun _ => rfl) l i h 0 (by decide) _ _ rfl
theorem set_nat {l : List Nat} {i x : Nat} (h : i < l.length) : (l.flatMap cntV).set (0 + i * 1) (exI .i64 ((x : Nat) : Int)) = (l.set i x).flatMap cntV := by
 rw [Nat.zero_add]; exact flat_set1 (fs := cntV) (s := 1) (fun _ => rfl) l i h 0 (by decide) _ _ rfl
theorem oBound {ties : List TieD} (hk : Hk ties) (h5 : ties.length ≤ 5) (h4 : ∀ i, i < ties.length → (keysAt ties i).length ≤ 4) {t i : Nat} (ht : t < ties.length) (hi : i ≤ ties.length) : ∀ j, (oPart ties (oRun ties t) i).many.getD j 0 ≤ 1125899906842624 := fun j => by
 refine Nat.le_trans (oPart_le hk (oRun_inv hk t) h4 (oRun_le hk h4 t) i hi j) ?_
 have h1 : t * ties.length ≤ 4 * 5 := Nat.mul_le_mul (by omega) h5
 have h2 : 4 ^ (t * ties.length + i) ≤ 4 ^ 25 := Nat.pow_le_pow_right (by decide) (by omega)
 exact Nat.le_trans h2 (by decide)
theorem RulesD.small15 {fr : List UInt8 → Bool} {r : RulesD} (hf : r.few15 = true) (hc : r.check fr = 0) : r.ties.length ≤ 5 ∧ ∀ i, i < r.ties.length → (keysAt r.ties i).length ≤ 4 := by
 have hlg := (RulesD.check_zero.1 hc).1
 unfold RulesD.few15 at hf
 rw [Bool.and_eq_true, Bool.and_eq_true, decide_eq_true_iff] at hf
 obtain ⟨h1, -, h3⟩ := hf
 have h16 : r.ties.length ≤ 16 := by
   unfold RulesD.large RulesD.big at hlg
   simp only [Bool.or_eq_false_iff, decide_eq_false_iff_not] at hlg
   omega
 refine ⟨by omega, fun i hi => ?_⟩
 rw [keysAt_get hi]
 have h5 := List.all_eq_true.1 h1 _ (List.getElem_mem hi)
 have h6 := ((RulesD.sound_of hc).linked _ (List.getElem_mem hi)).1
 unfold RulesD.midT at h5
 rw [Bool.not_eq_true', decide_eq_false_iff_not] at h5
 omega
theorem RulesD.check15_of {fr : List UInt8 → Bool} {r : RulesD} (hc : r.check fr = 0) (hfi : r.fine = true) : (r.check15 fr).2 = if (expansionF r.ties).2 ≠ 0 then (expansionF r.ties).2 else if RulesD.roundsBad (expansionF r.ties).1 0 r.rounds then 151 else 0 := by
 unfold RulesD.check15
 rw [if_neg (by simp [hc]), hfi]
 simp only [Bool.not_true, Bool.false_eq_true, if_false]
 split
 · rfl
 · split <;> rfl
end Go.Fr
namespace Go.Proofs.YthldagplhklbnaaGreatDoor
open Go Go.RowKit Go.Kx Go.Fr
set_option maxHeartbeats 4000000 in
set_option maxRecDepth 100000 in
theorem rulesOrder_any (kk : Nat) (r : RulesD) : FnC Tryz.prog 5 [rul kk r] [Tab] (fun p loc => p = exB true ∧ loc = []) := by
 have hfw := few15_any kk r
 by_cases hf : r.few15 = true
 · have hf14 := RulesD.few_of15 hf
   obtain ⟨-, -, -, hf4, -, -, -, hf8, -⟩ := few_facts hf14
   have hck := nCheck15_any kk r hf14
   have hnc := ncheck_any kk r hf14
   have hrnc := r14check_any kk r hf14
   have hfrm := formed15_any kk r hf8
   rw [hf] at hfw
   by_cases hc : r.check freeF = 0 ∧ r.fine = true
   · obtain ⟨hc, hfi⟩ := hc
     obtain ⟨h5n, h4k⟩ := RulesD.small15 hf hc
     have hs := RulesD.sound_of hc
     have hk := RulesD.hk_of hs hfi
     have hlin := hs.linked
     have hres := RulesD.check15_of hc hfi
     have hlaw := order_law hk
     rw [hc] at hnc hrnc
     rw [hfi] at hfrm
     rw [hres] at hck
     clear hres hf8 hs hfi hc hf
     unfold rul at *
     refine Zb7 Tryz.func5 rfl Tryz.ntmps5 rfl fun w0 F0 out => ?_
     (repeat' (first | (apply Zbh 3; refine Stop.out ?_) | refine Za8 ?_ | refine Za1 ?_ | refine Za6 ?_ | (apply Za9; (first | exact Za4 rfl | (apply g_un; exact Zbg rfl)); exact rfl) | refine Zag ?_ | refine Zb8 rfl ?_ | (apply Zaj; exact rfl; first | (apply Zao; (refine Zby (.dup 1 rfl rfl .nil) Tryz.func6 rfl sane15_any rfl ?_ (hH := Zck); rintro _ _ ⟨rfl, rfl⟩)) | (apply Zc9; refine Zbz rfl ?_; intro _))))
     refine ⟨Zbn (Zch (k := 0) (t := 1) rfl rfl) ?_⟩
     (repeat' (first | (apply cuts_at 8; refine Stop.out ?_) | refine Za8 ?_ | refine Za1 ?_ | refine Za6 ?_ | (apply Za9; (first | exact Za3 rfl | exact Za4 rfl | exact Zas (b := false) rfl (fun e => by cases e) (fun _ => rfl) | (apply Za7; first | exact Zb1 rfl rfl | exact Zb2 rfl rfl) | (apply Zat; exact Zay rfl rfl rfl) | (apply Zax; exact Zb3 rfl rfl) | (apply g_un; exact Zbg rfl)); exact rfl) | (apply Zbt; exact rfl; exact rfl; exact rfl; (first | (apply Za7; exact Zb2 rfl rfl) | (apply Zah; exact Zc3 rfl rfl) | (apply g_un; exact Zbg rfl)); exact rfl) | refine Zag ?_ | refine Zb8 rfl ?_ | (apply Zaj; exact rfl; first | (apply Zao; (refine Zaw Tryz.func7 rfl hfw rfl ?_; rintro _ _ ⟨rfl, rfl⟩)) | (apply g_make; refine WO_make rfl rfl rfl ?_; intro _)) | (apply Zc8; exact rfl; exact rfl; exact rfl; exact rfl; (apply Zao; first | (refine Zby (.dup 0 rfl rfl .nil) Tryz.func13 rfl hnc rfl ?_ (hH := Zck); rintro _ _ ⟨rfl, rfl⟩) | (refine Zaw Tryz.func14 rfl hrnc rfl ?_; rintro _ _ ⟨rfl, rfl⟩) | (refine Zaw Tryz.func15 rfl hfrm rfl ?_; rintro _ _ ⟨rfl, rfl⟩)))))
     all_goals (try (exfalso; first | contradiction | omega))
     rename_i b3 b5
     rw [rep_bool, rep_nat]
     refine ⟨?_⟩
     clear hfw hnc hrnc hfrm
     (repeat' (first | refine Za8 ?_ | refine Za1 ?_ | refine Za6 ?_ | (apply Za9; (first | exact Za4 rfl); exact rfl) | refine Zaa ?_))
     refine Zbv (fun t : Nat => ([(1, fp (rulesV kk r)), (3, ex (.slice (some ⟨b3, 0, none⟩) r.ties.length r.ties.length)), (5, ex (.slice (some ⟨b5, 0, none⟩) r.ties.length r.ties.length)), (4, exB (oRun r.ties t).short), (6, exI .i64 (t : Int))], [row b5 3 r.ties.length ((oRun r.ties t).many.flatMap cntV), row b3 4 r.ties.length ((oRun r.ties t).done.flatMap boolV), Tab])) (fun t => t ≤ r.ties.length) (fun t => r.ties.length - t) 0 ?_ (Nat.zero_le _) fun t ht => ?_
     · exact Zae (by repeat (first | exact Zai | refine Zad rfl ?_)) (List.Sublist.refl _)
     by_cases hlt : t < r.ties.length
     · (repeat' (first | refine Za8 ?_ | refine Za1 ?_ | refine Za6 ?_ | (apply Za9; (first | exact Za3 rfl | exact Za4 rfl | (apply Za7; exact Zb1 rfl rfl) | (apply Zat; exact Zay rfl rfl rfl) | (apply Zah; exact Zau rfl rfl) | (apply Zax; exact Zb3 rfl rfl)); exact rfl) | refine Zaa ?_ | refine Zag ?_ | (refine Zac rfl (fun hb => ?_) (fun hb => ?_) <;> (repeat (first | replace hb := Zam hb | replace hb := Zan hb)) <;> (try (exfalso; omega)))))
       all_goals (try (exfalso; omega))
       refine Zbv (fun i : Nat => ([(1, fp (rulesV kk r)), (3, ex (.slice (some ⟨b3, 0, none⟩) r.ties.length r.ties.length)), (5, ex (.slice (some ⟨b5, 0, none⟩) r.ties.length r.ties.length)), (4, exB (oPart r.ties (oRun r.ties t) i).short), (6, exI .i64 (t : Int)), (7, exI .i64 (i : Int))], [row b5 3 r.ties.length ((oPart r.ties (oRun r.ties t) i).many.flatMap cntV), row b3 4 r.ties.length ((oPart r.ties (oRun r.ties t) i).done.flatMap boolV), Tab])) (fun i => i ≤ r.ties.length) (fun i => r.ties.length - i) 0 ?_ (Nat.zero_le _) fun i hi => ?_
       · exact Zae (by repeat (first | exact Zai | refine Zad rfl ?_)) (List.Sublist.refl _)
       by_cases hli : i < r.ties.length
       · have hinv := oPart_inv hk (oRun_inv hk t) i hi
         have hbnd := oBound hk h5n h4k hlt hi
         have hnext := oPart_succ r.ties (oRun r.ties t) i
         generalize oPart r.ties (oRun r.ties t) i = s at hinv hbnd hnext ⊢
         have hld := hinv.ld
         have hlm := hinv.lm
         have hgD : ∀ j, j < r.ties.length → (s.done.flatMap boolV)[0 + j * 1]? = some (exB (s.done.getD j false)) := fun j hj => get_bool (by omega)
         have hgM : ∀ j, j < r.ties.length → (s.many.flatMap cntV)[0 + j * 1]? = some (exI .i64 ((s.many.getD j 0 : Nat) : Int)) := fun j hj => get_nat (by omega)
         have hkl := (hlin _ (List.getElem_mem hli)).1
         have hkr := (hlin _ (List.getElem_mem hli)).2
         have hsm : oSum r.ties s i = r.ties[i].keys.foldl (okStep s) (!s.done.getD i false, 0) := by unfold oSum; rw [keysAt_get hli]
         have hdi := hgD i hli
         (repeat' (first | refine Za8 ?_ | refine Za1 ?_ | refine Za6 ?_ | (apply Za9; (first | exact Za3 rfl | exact Za4 rfl | (apply Za7; first | exact Zb1 rfl rfl | exact Zab (k := 1) rfl rfl (by assumption) rfl) | (apply Zat; exact Zay rfl rfl rfl) | (apply Zah; exact Zau rfl rfl) | (apply Zak; exact Zc0 rfl rfl rfl) | (apply Zax; exact Zb3 rfl rfl) | (apply g_un; exact Zbg rfl)); exact rfl) | refine Zaa ?_ | refine Zag ?_ | (refine Zac rfl (fun hb => ?_) (fun hb => ?_) <;> (repeat (first | replace hb := Zam hb | replace hb := Zan hb)) <;> (try (exfalso; omega)))))
         all_goals (try (exfalso; omega))
         refine Zbv (fun q : Nat => ([(1, fp (rulesV kk r)), (3, ex (.slice (some ⟨b3, 0, none⟩) r.ties.length r.ties.length)), (5, ex (.slice (some ⟨b5, 0, none⟩) r.ties.length r.ties.length)), (4, exB s.short), (6, exI .i64 (t : Int)), (7, exI .i64 (i : Int)), (8, exB ((r.ties[i].keys.take q).foldl (okStep s) (!s.done.getD i false, 0)).1), (9, exI .i64 ((((r.ties[i].keys.take q).foldl (okStep s) (!s.done.getD i false, 0)).2 : Nat) : Int)), (10, exI .i64 (q : Int))], [row b5 3 r.ties.length (s.many.flatMap cntV), row b3 4 r.ties.length (s.done.flatMap boolV), Tab])) (fun q => q ≤ r.ties[i].keys.length) (fun q => r.ties[i].keys.length - q) 0 ?_ (Nat.zero_le _) fun q hq => ?_
         · exact Zae (by repeat (first | exact Zai | refine Zad rfl ?_)) (List.Sublist.refl _)
         by_cases hlq : q < r.ties[i].keys.length
         · have hstep : (r.ties[i].keys.take (q + 1)).foldl (okStep s) (!s.done.getD i false, 0) = okStep s ((r.ties[i].keys.take q).foldl (okStep s) (!s.done.getD i false, 0)) r.ties[i].keys[q] := foldl_take hlq
           have hle := fold_le hbnd (by decide) (r.ties[i].keys.take q) (!s.done.getD i false, 0)
           have hle : ((r.ties[i].keys.take q).foldl (okStep s) (!s.done.getD i false, 0)).2 ≤ 36028797018963968 := by
             have h1 : (r.ties[i].keys.take q).length ≤ 32 := by rw [List.length_take]; omega
             have h2 : (r.ties[i].keys.take q).length * 1125899906842624 ≤ 32 * 1125899906842624 := Nat.mul_le_mul_right _ h1
             simp only [Nat.zero_add] at hle
             omega
           generalize (r.ties[i].keys.take q).foldl (okStep s) (!s.done.getD i false, 0) = a at hle hstep ⊢
           obtain ⟨rb, m⟩ := a
           simp only at hle ⊢
           by_cases h5 : r.ties[i].keys[q].kind = 5
           · obtain ⟨hk1, hk2⟩ := hkr _ (List.getElem_mem hlq) h5
             have hkn : r.ties[i].keys[q].n.toNat < r.ties.length := by omega
             have hdk := hgD _ hkn
             have hmk := hgM _ hkn
             have hbk := hbnd r.ties[i].keys[q].n.toNat
             by_cases hd : s.done.getD r.ties[i].keys[q].n.toNat false = true
             · have hstep : (r.ties[i].keys.take (q + 1)).foldl (okStep s) (!s.done.getD i false, 0) = (rb, m + s.many.getD r.ties[i].keys[q].n.toNat 0) := by
                 rw [hstep]; unfold okStep; rw [if_neg (by simpa using h5), if_pos hd]
               rw [hd] at hdk
               (repeat' (first | (apply Zbh 20; refine Stop.out ?_) | refine Za8 ?_ | refine Za1 ?_ | refine Za6 ?_ | (apply Za9; (first | exact Za3 rfl | (apply Za7; first | exact Zb1 rfl rfl | exact Zb2 rfl rfl) | (apply Zat; exact Zay rfl rfl rfl) | (apply Zah; exact Zau rfl rfl) | (apply Zak; exact Zar rfl rfl rfl) | (apply Zax; exact Zb3 rfl rfl)); exact rfl) | refine Zaa ?_ | refine Zag ?_ | (apply Zaj; exact rfl; first | (apply Zbi; refine Zba ?_; intro _) | (apply Zav; refine Zal (k := 0) (l0 := []) rfl rfl rfl ?_)) | (refine Zac rfl (fun hb => ?_) (fun hb => ?_) <;> (repeat (first | replace hb := Zam hb | replace hb := Zan hb)) <;> (try (exfalso; omega)))))
               all_goals (try (exfalso; omega))
               refine ⟨Zbn (Zch (k := 0) (t := 11) rfl rfl) ?_⟩
               (repeat' (first | refine Za8 ?_ | refine Za1 ?_ | refine Za6 ?_ | (apply Za9; (first | exact Za3 rfl | exact Za4 rfl | (apply Za7; first | exact Zb1 rfl rfl | exact Zab (k := 0) rfl rfl (by assumption) rfl | exact Zab (k := 1) rfl rfl (by assumption) rfl) | (apply Zat; exact Zay rfl rfl rfl) | (apply Zah; first | exact Zc3 rfl rfl | exact Zbf rfl rfl) | (apply Zak; exact WT_indexoz rfl rfl rfl)); exact rfl) | refine Zb4 rfl ?_ | (refine Zac rfl (fun hb => ?_) (fun hb => ?_) <;> (repeat (first | replace hb := Zam hb | replace hb := Zan hb | replace hb := Zbr hb | replace hb := Zbs hb)) <;> (try (exfalso; contradiction)))))
               all_goals (try (exfalso; first | contradiction | omega))
               exact ⟨q + 1, by omega, by omega, by simp only [hstep]; exact Zae (by repeat (first | exact Zai | refine Zad rfl ?_)) (List.Sublist.refl _)⟩
             · have hstep : (r.ties[i].keys.take (q + 1)).foldl (okStep s) (!s.done.getD i false, 0) = (false, m) := by
                 rw [hstep]; unfold okStep; rw [if_neg (by simpa using h5), if_neg hd]
               rw [show s.done.getD r.ties[i].keys[q].n.toNat false = false by simpa using hd] at hdk
               (repeat' (first | (apply Zbh 20; refine Stop.out ?_) | refine Za8 ?_ | refine Za1 ?_ | refine Za6 ?_ | (apply Za9; (first | exact Za3 rfl | (apply Za7; first | exact Zb1 rfl rfl | exact Zb2 rfl rfl) | (apply Zat; exact Zay rfl rfl rfl) | (apply Zah; exact Zau rfl rfl) | (apply Zak; exact Zar rfl rfl rfl) | (apply Zax; exact Zb3 rfl rfl)); exact rfl) | refine Zaa ?_ | refine Zag ?_ | (apply Zaj; exact rfl; first | (apply Zbi; refine Zba ?_; intro _) | (apply Zav; refine Zal (k := 0) (l0 := []) rfl rfl rfl ?_)) | (refine Zac rfl (fun hb => ?_) (fun hb => ?_) <;> (repeat (first | replace hb := Zam hb | replace hb := Zan hb)) <;> (try (exfalso; omega)))))
               all_goals (try (exfalso; omega))
               refine ⟨Zbn (Zch (k := 0) (t := 11) rfl rfl) ?_⟩
               (repeat' (first | refine Za8 ?_ | refine Za1 ?_ | refine Za6 ?_ | (apply Za9; (first | exact Za3 rfl | exact Za4 rfl | (apply Za7; first | exact Zb1 rfl rfl | exact Zab (k := 1) rfl rfl (by assumption) rfl) | (apply Zat; exact Zay rfl rfl rfl) | (apply Zah; first | exact Zc3 rfl rfl | exact Zbf rfl rfl) | (apply Zak; exact WT_indexoz rfl rfl rfl)); exact rfl) | refine Zb8 rfl ?_ | (refine Zac rfl (fun hb => ?_) (fun hb => ?_) <;> (repeat (first | replace hb := Zam hb | replace hb := Zan hb | replace hb := Zbr hb | replace hb := Zbs hb)) <;> (try (exfalso; contradiction)))))
               all_goals (try (exfalso; first | contradiction | omega))
               exact ⟨q + 1, by omega, by omega, by simp only [hstep]; exact Zae (by repeat (first | exact Zai | refine Zad rfl ?_)) (List.Sublist.refl _)⟩
           · have hstep : (r.ties[i].keys.take (q + 1)).foldl (okStep s) (!s.done.getD i false, 0) = (rb, m + 1) := by
               rw [hstep]; unfold okStep; rw [if_pos h5]
             (repeat' (first | (apply Zbh 20; refine Stop.out ?_) | refine Za8 ?_ | refine Za1 ?_ | refine Za6 ?_ | (apply Za9; (first | exact Za3 rfl | (apply Za7; first | exact Zb1 rfl rfl | exact Zb2 rfl rfl) | (apply Zat; exact Zay rfl rfl rfl) | (apply Zah; exact Zau rfl rfl) | (apply Zak; exact Zar rfl rfl rfl) | (apply Zax; exact Zb3 rfl rfl)); exact rfl) | refine Zaa ?_ | refine Zag ?_ | (apply Zaj; exact rfl; first | (apply Zbi; refine Zba ?_; intro _) | (apply Zav; refine Zal (k := 0) (l0 := []) rfl rfl rfl ?_)) | (refine Zac rfl (fun hb => ?_) (fun hb => ?_) <;> (repeat (first | replace hb := Zam hb | replace hb := Zan hb)) <;> (try (exfalso; omega)))))
             all_goals (try (exfalso; omega))
             refine ⟨Zbn (Zch (k := 0) (t := 11) rfl rfl) ?_⟩
             (repeat' (first | refine Za1 ?_ | refine Za6 ?_ | (apply Za9; (first | exact Za3 rfl | exact Za4 rfl | (apply Za7; exact Zb1 rfl rfl) | (apply Zat; exact Zay rfl rfl rfl) | (apply Zah; first | exact Zc3 rfl rfl | exact Zbf rfl rfl)); exact rfl) | (refine Zac rfl (fun hb => ?_) (fun hb => ?_) <;> (repeat (first | replace hb := Zam hb | replace hb := Zan hb | replace hb := Zbr hb | replace hb := Zbs hb)) <;> (try (exfalso; contradiction)))))
             all_goals (try (exfalso; first | contradiction | omega))
             exact ⟨q + 1, by omega, by omega, by simp only [hstep]; exact Zae (by repeat (first | exact Zai | refine Zad rfl ?_)) (List.Sublist.refl _)⟩
         · rw [show q = r.ties[i].keys.length by omega, List.take_length, ← hsm]
           have hidx : 0 + i * 1 < (s.done.flatMap boolV).length := by rw [length_flat (fs := boolV) (s := 1) (fun _ => rfl)]; omega
           have hidm : 0 + i * 1 < (s.many.flatMap cntV).length := by rw [length_flat (fs := cntV) (s := 1) (fun _ => rfl)]; omega
           unfold oRow at hnext
           generalize oSum r.ties s i = a at hnext ⊢
           obtain ⟨rb, m⟩ := a
           simp only at hnext ⊢
           cases rb
           · rw [if_neg (by simp)] at hnext
             (repeat' (first | refine Za8 ?_ | refine Za1 ?_ | refine Za6 ?_ | (apply Za9; (first | exact Za3 rfl | exact Za4 rfl | (apply Za7; exact Zb1 rfl rfl) | (apply Zat; exact Zay rfl rfl rfl) | (apply Zah; first | exact Zau rfl rfl | exact Zbf rfl rfl) | (apply Zak; exact Zar rfl rfl rfl) | (apply Zax; exact Zb3 rfl rfl)); exact rfl) | refine Zag ?_ | refine Zbk ?_ | refine Zb8 rfl ?_ | (refine Zac rfl (fun hb => ?_) (fun hb => ?_) <;> (repeat (first | replace hb := Zam hb | replace hb := Zan hb)) <;> (try (exfalso; omega)))))
             all_goals (try (exfalso; first | contradiction | omega))
             exact ⟨i + 1, by omega, by omega, by simp only [hnext]; exact Zae (by repeat (first | exact Zai | refine Zad rfl ?_)) (List.Sublist.refl _)⟩
           · rw [if_pos rfl] at hnext
             cases hsh : s.short
             · rw [hsh, Bool.false_and] at hnext
               (repeat' (first | refine Za8 ?_ | refine Za1 ?_ | refine Za6 ?_ | (apply Za9; (first | exact Za3 rfl | exact Za4 rfl | exact Zas (b := false) rfl (fun e => by cases e) (fun _ => rfl) | (apply Za7; exact Zb1 rfl rfl) | (apply Zat; exact Zay rfl rfl rfl) | (apply Zah; first | exact Zau rfl rfl | exact Zbf rfl rfl) | (apply Zak; first | exact Zar rfl rfl rfl | exact Zc0 rfl rfl rfl) | (apply Zax; exact Zb3 rfl rfl)); exact rfl) | (refine Zbq rfl rfl rfl rfl rfl ?_) | refine Zbk ?_ | refine Zb4 rfl ?_ | (apply Zaj; exact rfl; (apply Zav; first | refine WO_store1 (k := 0) (l0 := []) rfl rfl rfl ?_ | refine WO_store1 (k := 1) (l0 := []) rfl rfl rfl ?_)) | (refine Zac rfl (fun hb => ?_) (fun hb => ?_) <;> (repeat (first | replace hb := Zam hb | replace hb := Zan hb)) <;> (try (exfalso; omega)))))
               all_goals (try (exfalso; first | contradiction | omega))
               rw [set_bool (by omega), set_nat (by omega)]
               exact ⟨i + 1, by omega, by omega, by simp only [hnext]; exact Zae (by repeat (first | exact Zai | refine Zad rfl ?_)) (List.Sublist.refl _)⟩
             · rw [hsh, Bool.true_and, show decide (m ≤ 32) = decide ((m : Int) ≤ 32) from decide_eq_decide.2 (by omega)] at hnext
               (repeat' (first | refine Za8 ?_ | refine Za1 ?_ | refine Za6 ?_ | (apply Za9; (first | exact Za3 rfl | exact Za4 rfl | exact Zas (b := true) rfl (fun _ => rfl) (fun e => by cases e) | (apply Za7; exact Zb1 rfl rfl) | (apply Zat; exact Zay rfl rfl rfl) | (apply Zah; first | exact Zau rfl rfl | exact Zbf rfl rfl) | (apply Zak; first | exact Zar rfl rfl rfl | exact Zc0 rfl rfl rfl) | (apply Zax; exact Zb3 rfl rfl)); exact rfl) | (apply Zbt; exact rfl; exact rfl; exact rfl; (first | exact Za3 rfl | (apply Zah; exact WT_leq rfl rfl)); exact rfl) | refine Zbk ?_ | refine Zb4 rfl ?_ | (apply Zaj; exact rfl; (apply Zav; first | refine WO_store1 (k := 0) (l0 := []) rfl rfl rfl ?_ | refine WO_store1 (k := 1) (l0 := []) rfl rfl rfl ?_)) | (refine Zac rfl (fun hb => ?_) (fun hb => ?_) <;> (repeat (first | replace hb := Zam hb | replace hb := Zan hb)) <;> (try (exfalso; omega)))))
               all_goals (try (exfalso; first | contradiction | omega))
               rw [set_bool (by omega), set_nat (by omega)]
               exact ⟨i + 1, by omega, by omega, by simp only [hnext]; exact Zae (by repeat (first | exact Zai | refine Zad rfl ?_)) (List.Sublist.refl _)⟩
       · rw [show i = r.ties.length by omega]
         (repeat' (first | refine Za8 ?_ | refine Za1 ?_ | refine Za6 ?_ | (apply Za9; (first | exact Za3 rfl | exact Za4 rfl | (apply Za7; exact Zb1 rfl rfl) | (apply Zat; exact Zay rfl rfl rfl) | (apply Zah; first | exact Zau rfl rfl | exact Zbf rfl rfl) | (apply Zax; exact Zb3 rfl rfl)); exact rfl) | refine Zbk ?_ | (refine Zac rfl (fun hb => ?_) (fun hb => ?_) <;> (repeat (first | replace hb := Zam hb | replace hb := Zan hb)) <;> (try (exfalso; omega)))))
         all_goals (try (exfalso; omega))
         exact ⟨t + 1, by omega, by omega, Zae (by repeat (first | exact Zai | refine Zad rfl ?_)) (List.Sublist.refl _)⟩
     · rw [show t = r.ties.length by omega]
       have hld := (oRun_inv hk r.ties.length).ld
       generalize oRun r.ties r.ties.length = s at hlaw hld ⊢
       obtain ⟨hlaw1, hlaw2⟩ := hlaw
       have hgD : ∀ j, j < r.ties.length → (s.done.flatMap boolV)[0 + j * 1]? = some (exB (s.done.getD j false)) := fun j hj => get_bool (by omega)
       (repeat' (first | refine Za8 ?_ | refine Za1 ?_ | refine Za6 ?_ | (apply Za9; (first | exact Za3 rfl | exact Za4 rfl | (apply Za7; exact Zb1 rfl rfl) | (apply Zat; exact Zay rfl rfl rfl) | (apply Zah; exact Zau rfl rfl) | (apply Zax; exact Zb3 rfl rfl)); exact rfl) | refine Zaa ?_ | refine Zbk ?_ | (refine Zac rfl (fun hb => ?_) (fun hb => ?_) <;> (repeat (first | replace hb := Zam hb | replace hb := Zan hb)) <;> (try (exfalso; omega)))))
       all_goals (try (exfalso; omega))
       refine Zbv (fun q : Nat => ([(1, fp (rulesV kk r)), (3, ex (.slice (some ⟨b3, 0, none⟩) r.ties.length r.ties.length)), (5, ex (.slice (some ⟨b5, 0, none⟩) r.ties.length r.ties.length)), (4, exB s.short), (12, exB ((s.done.take q).all id)), (13, exI .i64 (q : Int))], [row b5 3 r.ties.length (s.many.flatMap cntV), row b3 4 r.ties.length (s.done.flatMap boolV), Tab])) (fun q => q ≤ r.ties.length) (fun q => r.ties.length - q) 0 ?_ (Nat.zero_le _) fun q hq => ?_
       · exact Zae (by repeat (first | exact Zai | refine Zad rfl ?_)) (List.Sublist.refl _)
       by_cases hlq : q < r.ties.length
       · have hdq := hgD q hlq
         have hstep : (s.done.take (q + 1)).all id = ((s.done.take q).all id && s.done.getD q false) := by
           rw [List.take_succ_eq_append_getElem (by omega), List.all_append, List.getD_eq_getElem?_getD, List.getElem?_eq_getElem (by omega)]
           simp
         generalize (s.done.take q).all id = a at hstep ⊢
         cases a
         · rw [Bool.false_and] at hstep
           (repeat' (first | refine Za8 ?_ | refine Za1 ?_ | refine Za6 ?_ | (apply Za9; (first | exact Za3 rfl | exact Za4 rfl | exact Zas (b := false) rfl (fun e => by cases e) (fun _ => rfl) | (apply Zah; first | exact Zau rfl rfl | exact Zbf rfl rfl) | (apply Zax; exact WT_lenv rfl rfl)); exact rfl) | (refine Zbq rfl rfl rfl rfl rfl ?_) | refine Zaa ?_ | refine Zag ?_ | (refine Zac rfl (fun hb => ?_) (fun hb => ?_) <;> (repeat (first | replace hb := Zam hb | replace hb := Zan hb)) <;> (try (exfalso; omega)))))
           all_goals (try (exfalso; first | contradiction | omega))
           exact ⟨q + 1, by omega, by omega, by simp only [hstep]; exact Zae (by repeat (first | exact Zai | refine Zad rfl ?_)) (List.Sublist.refl _)⟩
         · rw [Bool.true_and] at hstep
           (repeat' (first | refine Za8 ?_ | refine Za1 ?_ | refine Za6 ?_ | (apply Za9; (first | exact Za3 rfl | exact Za4 rfl | exact Zas (b := true) rfl (fun _ => rfl) (fun e => by cases e) | (apply Zah; first | exact Zau rfl rfl | exact Zbf rfl rfl) | (apply Zax; exact WT_lenv rfl rfl)); exact rfl) | (apply Zbt; exact rfl; exact rfl; exact rfl; (first | exact Za3 rfl | (apply Za7; exact Zab (k := 1) rfl rfl (by assumption) rfl) | (apply Zak; exact Zc0 rfl rfl rfl)); exact rfl) | refine Zaa ?_ | refine Zag ?_ | (refine Zac rfl (fun hb => ?_) (fun hb => ?_) <;> (repeat (first | replace hb := Zam hb | replace hb := Zan hb)) <;> (try (exfalso; omega)))))
           all_goals (try (exfalso; first | contradiction | omega))
           exact ⟨q + 1, by omega, by omega, by simp only [hstep]; exact Zae (by repeat (first | exact Zai | refine Zad rfl ?_)) (List.Sublist.refl _)⟩
       · rw [show q = s.done.length by omega, List.take_length]
         (repeat' (first | (apply Zbh 34; refine Stop.out ?_) | refine Za8 ?_ | refine Za1 ?_ | refine Za6 ?_ | (apply Za9; (first | exact Za3 rfl | (apply Zah; exact Zau rfl rfl) | (apply Zax; exact WT_lenv rfl rfl)); exact rfl) | refine Zbk ?_ | (refine Zac rfl (fun hb => ?_) (fun hb => ?_) <;> (repeat (first | replace hb := Zam hb | replace hb := Zan hb)) <;> (try (exfalso; omega)))))
         all_goals (try (exfalso; omega))
         refine ⟨Zbn (Zae (env' := [(1, fp (rulesV kk r)), (4, exB s.short), (12, exB (s.done.all id))]) (loc' := [Tab]) (by repeat (first | exact Zai | refine Zad rfl ?_)) (.cons _ (.cons _ (.refl _)))) ?_⟩
         cases hA : s.done.all id
         · have he : (expansionF r.ties).2 = 151 := hlaw1 (by
             rw [List.all_eq_false] at hA
             obtain ⟨b, hb, hb2⟩ := hA
             obtain ⟨i, hi, rfl⟩ := List.getElem_of_mem hb
             refine ⟨i, by omega, ?_⟩
             rw [List.getD_eq_getElem?_getD, List.getElem?_eq_getElem hi]
             simpa using hb2)
           rw [he, if_pos (by decide)] at hck
           (repeat' (first | refine Za8 ?_ | refine Za1 ?_ | refine Za6 ?_ | (apply Za9; (first | exact Za3 rfl | exact Za4 rfl | (apply Za7; exact Zb2 rfl rfl) | (apply Zah; exact Zcd rfl rfl) | (apply g_un; exact Zbg rfl)); exact rfl) | refine Zaq ?_ | refine Zb4 rfl ?_ | (apply Zaj; exact rfl; (apply Zao; (refine Zby (.dup 0 rfl rfl .nil) Tryz.func8 rfl hck rfl ?_ (hH := Zck); rintro _ _ ⟨rfl, rfl⟩)))))
           all_goals (try (exfalso; first | contradiction | omega))
           exact ⟨.inr rfl, ret1 rfl (.tmp rfl) (List.nil_sublist _) ⟨rfl, rfl⟩⟩
         · have hall : ∀ i, i < r.ties.length → s.done.getD i false = true := fun i hi => by
             have := List.all_eq_true.1 hA _ (List.getElem_mem (by omega : i < s.done.length))
             rw [List.getD_eq_getElem?_getD, List.getElem?_eq_getElem (by omega)]
             exact this
           obtain ⟨hl2, hl3⟩ := hlaw2 hall
           cases hS : s.short
           · rw [hl2 hS, if_pos (by decide)] at hck
             (repeat' (first | refine Za8 ?_ | refine Za1 ?_ | refine Za6 ?_ | (apply Za9; (first | exact Za3 rfl | exact Za4 rfl | (apply Za7; exact Zb2 rfl rfl) | (apply Zah; exact Zcd rfl rfl) | (apply g_un; exact Zbg rfl)); exact rfl) | refine Zag ?_ | refine Zaq ?_ | refine Zb4 rfl ?_ | refine Zb8 rfl ?_ | (apply Zaj; exact rfl; (apply Zao; (refine Zby (.dup 0 rfl rfl .nil) Tryz.func8 rfl hck rfl ?_ (hH := Zck); rintro _ _ ⟨rfl, rfl⟩)))))
             all_goals (try (exfalso; first | contradiction | omega))
             exact ⟨.inr rfl, ret1 rfl (.tmp rfl) (List.nil_sublist _) ⟨rfl, rfl⟩⟩
           · rw [hl3 hS, if_neg (by decide)] at hck
             by_cases hrb : RulesD.roundsBad (expansionF r.ties).1 0 r.rounds = true
             · rw [if_pos hrb] at hck
               (repeat' (first | refine Za8 ?_ | refine Za1 ?_ | refine Za6 ?_ | (apply Za9; (first | exact Za3 rfl | exact Za4 rfl | exact Zas (b := false) rfl (fun e => by cases e) (fun _ => rfl) | (apply Za7; exact Zb2 rfl rfl) | (apply Zah; exact Zcd rfl rfl) | (apply g_un; exact Zbg rfl)); exact rfl) | (apply Zbt; exact rfl; exact rfl; exact rfl; (first | exact Za3 rfl | (apply Zah; exact Zcd rfl rfl)); exact rfl) | refine Zag ?_ | refine Zaq ?_ | refine Zb8 rfl ?_ | (apply Zaj; exact rfl; (apply Zao; (refine Zby (.dup 0 rfl rfl .nil) Tryz.func8 rfl hck rfl ?_ (hH := Zck); rintro _ _ ⟨rfl, rfl⟩)))))
               all_goals (try (exfalso; first | contradiction | omega))
               all_goals exact ⟨.inr rfl, ret1 rfl (.tmp rfl) (List.nil_sublist _) ⟨rfl, rfl⟩⟩
             · rw [if_neg hrb] at hck
               (repeat' (first | refine Za8 ?_ | refine Za1 ?_ | refine Za6 ?_ | (apply Za9; (first | exact Za3 rfl | exact Za4 rfl | exact Zas (b := true) rfl (fun _ => rfl) (fun e => by cases e) | (apply Za7; exact Zb2 rfl rfl) | (apply Zah; exact Zcd rfl rfl) | (apply g_un; exact Zbg rfl)); exact rfl) | (refine Zbq rfl rfl rfl rfl rfl ?_) | refine Zag ?_ | refine Zaq ?_ | refine Zb8 rfl ?_ | (apply Zaj; exact rfl; (apply Zao; (refine Zby (.dup 0 rfl rfl .nil) Tryz.func8 rfl hck rfl ?_ (hH := Zck); rintro _ _ ⟨rfl, rfl⟩)))))
               all_goals (try (exfalso; first | contradiction | omega))
               all_goals exact ⟨.inr rfl, ret1 rfl (.tmp rfl) (List.nil_sublist _) ⟨rfl, rfl⟩⟩
   · clear hck hf8
     unfold rul at *
     refine Zb7 Tryz.func5 rfl Tryz.ntmps5 rfl fun w0 F0 out => ?_
     generalize r.check freeF = e at hc hnc hrnc
     generalize r.fine = f at hc hfrm
     (repeat' (first | (apply Zbh 3; refine Stop.out ?_) | refine Za8 ?_ | refine Za1 ?_ | refine Za6 ?_ | (apply Za9; (first | exact Za4 rfl | (apply g_un; exact Zbg rfl)); exact rfl) | refine Zag ?_ | refine Zb8 rfl ?_ | (apply Zaj; exact rfl; first | (apply Zao; (refine Zby (.dup 1 rfl rfl .nil) Tryz.func6 rfl sane15_any rfl ?_ (hH := Zck); rintro _ _ ⟨rfl, rfl⟩)) | (apply Zc9; refine Zbz rfl ?_; intro _))))
     refine ⟨Zbn (Zch (k := 0) (t := 1) rfl rfl) ?_⟩
     (repeat' (first | (apply Zbh 5; refine Stop.out ?_) | refine Za8 ?_ | refine Za1 ?_ | refine Za6 ?_ | (apply Za9; (first | exact Za3 rfl | exact Za4 rfl | exact Zas (b := true) rfl (fun _ => rfl) (fun e => by cases e) | exact Zas (b := false) rfl (fun e => by cases e) (fun _ => rfl) | (apply Za7; exact Zb2 rfl rfl) | (apply g_un; exact Zbg rfl)); exact rfl) | (refine Zbq rfl rfl rfl rfl rfl ?_) | (apply Zbt; exact rfl; exact rfl; exact rfl; (first | (apply Za7; exact Zb2 rfl rfl) | (apply Zah; exact Zc3 rfl rfl) | (apply g_un; exact Zbg rfl)); exact rfl) | refine Zag ?_ | refine Zaq ?_ | refine Zb4 rfl ?_ | (apply Zaj; exact rfl; (apply Zao; (refine Zaw Tryz.func7 rfl hfw rfl ?_; rintro _ _ ⟨rfl, rfl⟩))) | (apply Zc8; exact rfl; exact rfl; exact rfl; exact rfl; (apply Zao; first | (refine Zby (.dup 0 rfl rfl .nil) Tryz.func13 rfl hnc rfl ?_ (hH := Zck); rintro _ _ ⟨rfl, rfl⟩) | (refine Zaw Tryz.func14 rfl hrnc rfl ?_; rintro _ _ ⟨rfl, rfl⟩) | (refine Zaw Tryz.func15 rfl hfrm rfl ?_; rintro _ _ ⟨rfl, rfl⟩))) | (refine Zbm rfl rfl (fun hb => ?_) (fun hb => ?_) <;> (repeat (first | replace hb := Zam hb | replace hb := Zan hb | replace hb := Zbr hb | replace hb := Zbs hb)) <;> (try (exfalso; contradiction))) | (refine Zac rfl (fun hb => ?_) (fun hb => ?_) <;> (repeat (first | replace hb := Zbr hb | replace hb := Zbs hb)) <;> (try (exfalso; fail)))))
     all_goals (try (exfalso; first | contradiction | omega | (apply hc; constructor; omega; assumption)))
     all_goals exact ⟨.inr rfl, ret1 rfl (.tmp rfl) (List.nil_sublist _) ⟨rfl, rfl⟩⟩
 · have hf' : r.few15 = false := by simpa using hf
   rw [hf'] at hfw
   unfold rul at *
   refine Zb7 Tryz.func5 rfl Tryz.ntmps5 rfl fun w0 F0 out => ?_
   (repeat' (first | (apply Zbh 3; refine Stop.out ?_) | refine Za8 ?_ | refine Za1 ?_ | refine Za6 ?_ | (apply Za9; (first | exact Za4 rfl | (apply g_un; exact Zbg rfl)); exact rfl) | refine Zag ?_ | refine Zb8 rfl ?_ | (apply Zaj; exact rfl; first | (apply Zao; (refine Zby (.dup 1 rfl rfl .nil) Tryz.func6 rfl sane15_any rfl ?_ (hH := Zck); rintro _ _ ⟨rfl, rfl⟩)) | (apply Zc9; refine Zbz rfl ?_; intro _))))
   refine ⟨Zbn (Zch (k := 0) (t := 1) rfl rfl) ?_⟩
   (repeat' (first | refine Za8 ?_ | refine Za1 ?_ | refine Za6 ?_ | (apply Za9; (first | exact Za3 rfl | exact Za4 rfl | exact Zas (b := true) rfl (fun _ => rfl) (fun e => by cases e) | (apply Za7; exact Zb2 rfl rfl) | (apply g_un; exact Zbg rfl)); exact rfl) | (refine Zbq rfl rfl rfl rfl rfl ?_) | refine Zaq ?_ | refine Zb4 rfl ?_ | (apply Zaj; exact rfl; (apply Zao; (refine Zaw Tryz.func7 rfl hfw rfl ?_; rintro _ _ ⟨rfl, rfl⟩)))))
   exact ⟨.inr rfl, ret1 rfl (.tmp rfl) (List.nil_sublist _) ⟨rfl, rfl⟩⟩
end Go.Proofs.YthldagplhklbnaaGreatDoor
