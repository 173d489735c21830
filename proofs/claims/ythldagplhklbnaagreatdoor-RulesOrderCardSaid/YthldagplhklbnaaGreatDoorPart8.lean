/- The expansion of all tie rules, told whole: a circle is met exactly if the tie rules have no ranks; else each list is the full one, cut at 33. No program in sight. -/
import Derived.Test.YthldagplhklbnaaGreatDoorPart7
import Derived.Test.YthldagplhklbnaaGreatDoorPart6
import Derived.Test.YthldagplhklbnaaGreatDoorPart3
import Derived.Test.YthldagplhklbnaaGreatDoorPart2
namespace Go.Fr
open Go.RowKit Go.Kx
def Ranked (ties : List TieD) (rk : Nat → Nat) : Prop := ∀ i, i < ties.length → ∀ k ∈ keysAt ties i, k.kind = 5 → rk k.n.toNat < rk i
def Acyc (ties : List TieD) : Prop := ∃ rk, Ranked ties rk
def exd (F : Nat → List KeyD) (k : KeyD) : List KeyD := if k.kind = 5 then F k.n.toNat else [k]
def Full (ties : List TieD) (F : Nat → List KeyD) : Prop := ∀ i, i < ties.length → F i = (keysAt ties i).flatMap (exd F)
def Hk (ties : List TieD) : Prop := ∀ i, i < ties.length → keysAt ties i ≠ [] ∧ linkK ties.length (keysAt ties i)
def fullF (ties : List TieD) : Nat → Nat → List KeyD
 | 0, _ => []
 | f + 1, i => (keysAt ties i).flatMap (exd (fullF ties f))
theorem flatMap_congr' {α β : Type} {f g : α → List β} : ∀ {l : List α}, (∀ x ∈ l, f x = g x) → l.flatMap f = l.flatMap g
 | [], _ => rfl
 | a :: l, h => by rw [List.flatMap_cons, List.flatMap_cons, h a List.mem_cons_self, flatMap_congr' fun x hx => h x (List.mem_cons_of_mem _ hx)]
theorem rank_ind {ties : List TieD} {rk : Nat → Nat} (hk : Hk ties) (hr : Ranked ties rk) {P : Nat → Prop} (h : ∀ i, i < ties.length → (∀ k ∈ keysAt ties i, k.kind = 5 → P k.n.toNat) → P i) : ∀ i, i < ties.length → P i := by
 have key : ∀ m i, rk i < m → i < ties.length → P i := by
   intro m
   induction m with
   | zero => intro i h _; omega
   | succ m ih => exact fun i hm hi => h i hi fun k hk5 h5 => ih _ (by have := hr i hi k hk5 h5; omega) ((hk i hi).2 k hk5 h5)
 exact fun i hi => key (rk i + 1) i (by omega) hi
theorem full_ne {ties : List TieD} {rk : Nat → Nat} {F : Nat → List KeyD} (hk : Hk ties) (hr : Ranked ties rk) (hF : Full ties F) : ∀ i, i < ties.length → F i ≠ [] :=
 rank_ind hk hr fun i hi h => by
   rw [hF i hi]
   refine flatMap_ne (hk i hi).1 fun x hx => ?_
   unfold exd
   split
   · rename_i h5; exact h x hx h5
   · simp
def exC (F : Nat → List KeyD) (k : KeyD) : List KeyD := if k.kind = 5 then (F k.n.toNat).take 33 else [k]
theorem take_app {α : Type} {a b c : List α} (h : ∀ m, m ≤ 33 → b.take m = c.take m) : ∀ m, m ≤ 33 → (a.take 33 ++ b).take m = (a ++ c).take m := by
 intro m hm
 rw [List.take_append, List.take_append, List.take_take, Nat.min_eq_left hm, List.length_take]
 by_cases hl : a.length ≤ 33
 · rw [Nat.min_eq_right hl, h _ (by omega)]
 · rw [Nat.min_eq_left (by omega), show m - 33 = 0 by omega, show m - a.length = 0 by omega]; rfl
theorem exC_take (F : Nat → List KeyD) : ∀ (l : List KeyD) (m : Nat), m ≤ 33 → (l.flatMap (exC F)).take m = (l.flatMap (exd F)).take m
 | [], _, _ => rfl
 | k :: l, m, hm => by
   rw [List.flatMap_cons, List.flatMap_cons]
   unfold exC exd
   split
   · exact take_app (exC_take F l) m hm
   · exact take_app (a := [k]) (exC_take F l) m hm
theorem exC_long (F : Nat → List KeyD) (l : List KeyD) : 32 < (l.flatMap (exC F)).length ↔ 32 < (l.flatMap (exd F)).length := by
 have := congrArg List.length (exC_take F l 33 (Nat.le_refl _))
 rw [List.length_take, List.length_take] at this
 omega
structure XS.inv (ties : List TieD) (F : Nat → List KeyD) (s : XS) : Prop where
 ok : s.ok ties.length
 c : s.circle = false
 at_ : ∀ j, j < ties.length → s.l.getD j [] ≠ [] → s.l.getD j [] = (F j).take 33 ∧ (32 < (F j).length → s.long = true)
 l : s.long = true → ∃ j, j < ties.length ∧ 32 < (F j).length
def XS.more (s s' : XS) : Prop := (∀ j, s.l.getD j [] ≠ [] → s'.l.getD j [] ≠ []) ∧ (s.long = true → s'.long = true)
theorem fold_inv {ties : List TieD} {F : Nat → List KeyD} {g : Nat → XS → List KeyD × XS} : ∀ (l : List KeyD) (a : List KeyD × XS), linkK ties.length l →
   (∀ k ∈ l, k.kind = 5 → ∀ s : XS, s.inv ties F → (g k.n.toNat s).2.inv ties F ∧ s.more (g k.n.toNat s).2 ∧ (g k.n.toNat s).1 = (F k.n.toNat).take 33) →
   a.2.inv ties F → (l.foldl (expStep g) a).2.inv ties F ∧ a.2.more (l.foldl (expStep g) a).2 ∧ (l.foldl (expStep g) a).1 = a.1 ++ l.flatMap (exC F)
 | [], a, _, _, h => ⟨h, ⟨fun _ h => h, fun h => h⟩, by simp⟩
 | k :: l, a, hl, hg, h => by
   have hll : linkK ties.length l := fun x hx => hl x (List.mem_cons_of_mem _ hx)
   have hgl := fun x hx => hg x (List.mem_cons_of_mem _ hx)
   rw [List.foldl_cons, List.flatMap_cons]
   by_cases h5 : k.kind = 5
   · have he : expStep g a k = (a.1 ++ (g k.n.toNat a.2).1, (g k.n.toNat a.2).2) := by unfold expStep; rw [if_pos h5]
     obtain ⟨g1, g2, g3⟩ := hg k List.mem_cons_self h5 a.2 h
     rw [he]
     obtain ⟨r1, r2, r3⟩ := fold_inv l (a.1 ++ (g k.n.toNat a.2).1, (g k.n.toNat a.2).2) hll hgl g1
     refine ⟨r1, ⟨fun j hj => r2.1 j (g2.1 j hj), fun e => r2.2 (g2.2 e)⟩, ?_⟩
     rw [r3, g3]
     unfold exC; rw [if_pos h5]; simp
   · have he : expStep g a k = (a.1 ++ [k], a.2) := by unfold expStep; rw [if_neg h5]
     rw [he]
     obtain ⟨r1, r2, r3⟩ := fold_inv l (a.1 ++ [k], a.2) hll hgl h
     refine ⟨r1, r2, ?_⟩
     rw [r3]
     have : exC F k = [k] := by unfold exC; rw [if_neg h5]
     rw [this]; simp
theorem expF_inv {ties : List TieD} {rk : Nat → Nat} {F : Nat → List KeyD} (hk : Hk ties) (hr : Ranked ties rk) (hF : Full ties F) : ∀ (f : Nat) (opn : List Nat) (i : Nat) (s : XS), opn.Nodup → (∀ x ∈ opn, x < ties.length) → (∀ x ∈ opn, rk i < rk x) → ties.length + 1 ≤ f + opn.length → s.inv ties F → i < ties.length →
   (expF ties f opn i s).2.inv ties F ∧ s.more (expF ties f opn i s).2 ∧ (expF ties f opn i s).1 = (F i).take 33 ∧ (expF ties f opn i s).2.l.getD i [] ≠ []
 | 0, opn, i, s, hnd, hlt, _, hf, _, _ => absurd (pigeon _ _ hnd hlt) (by omega)
 | f + 1, opn, i, s, hnd, hlt, hrk, hf, hs, hi => by
   have ho : i ∉ opn := fun h => absurd (hrk i h) (Nat.lt_irrefl _)
   unfold expF
   rw [if_neg ho]
   by_cases hlen : 0 < (s.l.getD i []).length
   · rw [if_pos hlen]
     have hne : s.l.getD i [] ≠ [] := fun e => by rw [e] at hlen; cases hlen
     exact ⟨hs, ⟨fun _ h => h, fun h => h⟩, (hs.at_ i hi hne).1, hne⟩
   · rw [if_neg hlen]
     have hnd2 : (opn ++ [i]).Nodup := List.nodup_append.2 ⟨hnd, by simp, fun a ha b hb => by simp at hb; subst hb; exact fun e => ho (e ▸ ha)⟩
     have hlt2 : ∀ x ∈ opn ++ [i], x < ties.length := fun x hx => by
       rcases List.mem_append.1 hx with h | h
       · exact hlt x h
       · rw [List.mem_singleton.1 h]; exact hi
     have hfold := fold_inv (ties := ties) (F := F) (g := fun j s => expF ties f (opn ++ [i]) j s) (keysAt ties i) ([], s) (hk i hi).2
       (fun k hk5 h5 s hs => by
         have hki := hr i hi k hk5 h5
         obtain ⟨q1, q2, q3, _⟩ := expF_inv hk hr hF f (opn ++ [i]) k.n.toNat s hnd2 hlt2 (fun x hx => by
           rcases List.mem_append.1 hx with h | h
           · have := hrk x h; omega
           · rw [List.mem_singleton.1 h]; exact hki) (by simp; omega) hs ((hk i hi).2 k hk5 h5)
         exact ⟨q1, q2, q3⟩) hs
     generalize hR : (keysAt ties i).foldl (expStep fun j s => expF ties f (opn ++ [i]) j s) ([], s) = R at hfold ⊢
     obtain ⟨acc, s1⟩ := R
     obtain ⟨r1, r2, r3⟩ := hfold
     simp only [List.nil_append] at r1 r2 r3
     have hcut : acc.take 33 = (F i).take 33 := by rw [r3, hF i hi]; exact exC_take F _ 33 (Nat.le_refl _)
     have hlg : 32 < acc.length ↔ 32 < (F i).length := by rw [r3, hF i hi]; exact exC_long F _
     have hsl1 : i < s1.l.length := by rw [r1.ok.1]; exact hi
     have hne := full_ne hk hr hF i hi
     have hnet : (F i).take 33 ≠ [] := fun e => hne (by cases h : F i with | nil => rfl | cons a l => rw [h] at e; simp at e)
     unfold expDone
     refine ⟨⟨(expDone_ok (i := i) (a := (acc, s1)) r1.ok).1, r1.c, fun j hj hjn => ?_, fun e => ?_⟩, ⟨fun j hj => ?_, fun e => ?_⟩, hcut, ?_⟩
     · show (s1.l.set i (acc.take 33)).getD j [] = _ ∧ (_ → (s1.long || decide (32 < acc.length)) = true)
       by_cases hij : i = j
       · subst hij
         rw [getD_set_self hsl1]
         exact ⟨hcut, fun h => by rw [decide_eq_true (hlg.2 h)]; simp⟩
       · have hj' : s1.l.getD j [] ≠ [] := by
           have : (s1.l.set i (acc.take 33)).getD j [] ≠ [] := hjn
           rwa [getD_set_ne hij] at this
         rw [getD_set_ne hij]
         obtain ⟨q1, q2⟩ := r1.at_ j hj hj'
         exact ⟨q1, fun h => by rw [q2 h]; rfl⟩
     · have e' : (s1.long || decide (32 < acc.length)) = true := e
       rw [Bool.or_eq_true, decide_eq_true_iff] at e'
       rcases e' with h | h
       · exact r1.l h
       · exact ⟨i, hi, hlg.1 h⟩
     · show (s1.l.set i (acc.take 33)).getD j [] ≠ []
       by_cases hij : i = j
       · subst hij; rw [getD_set_self hsl1, hcut]; exact hnet
       · rw [getD_set_ne hij]; exact r2.1 j hj
     · show (s1.long || decide (32 < acc.length)) = true
       rw [r2.2 e]; rfl
     · show (s1.l.set i (acc.take 33)).getD i [] ≠ []
       rw [getD_set_self hsl1, hcut]; exact hnet
theorem expRun_inv {ties : List TieD} {rk : Nat → Nat} {F : Nat → List KeyD} (hk : Hk ties) (hr : Ranked ties rk) (hF : Full ties F) : ∀ m, m ≤ ties.length → (expRun ties m).inv ties F ∧ ∀ i, i < m → (expRun ties m).l.getD i [] ≠ []
 | 0, _ => ⟨⟨expRun_ok ties 0, rfl, fun _ _ h => absurd getD_repl h, fun h => by cases h⟩, fun i hi => by omega⟩
 | m + 1, hm => by
   obtain ⟨h1, h2⟩ := expRun_inv hk hr hF m (by omega)
   rw [expRun_succ]
   obtain ⟨g1, g2, _, g4⟩ := expF_inv hk hr hF (ties.length + 1) [] m (expRun ties m) List.nodup_nil (fun x hx => by cases hx) (fun x hx => by cases hx) (by simp) h1 (by omega)
   refine ⟨g1, fun i hi => ?_⟩
   by_cases him : i = m
   · subst him; exact g4
   · exact g2.1 i (h2 i (by omega))
theorem expansionF_acyc {ties : List TieD} {rk : Nat → Nat} {F : Nat → List KeyD} (hk : Hk ties) (hr : Ranked ties rk) (hF : Full ties F) :
   ((∃ i, i < ties.length ∧ 32 < (F i).length) → expansionF ties = ([], 2)) ∧ ((∀ i, i < ties.length → (F i).length ≤ 32) → expansionF ties = ((List.range ties.length).map F, 0)) := by
 obtain ⟨h1, h2⟩ := expRun_inv hk hr hF ties.length (Nat.le_refl _)
 have he : expAll ties = expRun ties ties.length := rfl
 unfold expansionF
 rw [he, h1.c]
 constructor
 · rintro ⟨i, hi, hl⟩
   rw [if_neg (by simp), if_pos ((h1.at_ i hi (h2 i hi)).2 hl)]
 · intro h
   have : ¬ (expRun ties ties.length).long = true := fun e => by
     obtain ⟨j, hj, hl⟩ := h1.l e
     have := h j hj
     omega
   rw [if_neg (by simp), if_neg this]
   have hl : (expRun ties ties.length).l = (List.range ties.length).map F := by
     refine List.ext_getElem (by rw [h1.ok.1]; simp) fun i hi hi2 => ?_
     have hi3 : i < ties.length := by rw [h1.ok.1] at hi; exact hi
     have := (h1.at_ i hi3 (h2 i hi3)).1
     rw [List.getD_eq_getElem?_getD, List.getElem?_eq_getElem hi] at this
     rw [List.getElem_map, List.getElem_range]
     have h3 : (expRun ties ties.length).l[i] = (F i).take 33 := this
     rw [h3, List.take_of_length_le (by have := h i hi3; omega)]
   rw [hl]
def XS.goodR (ties : List TieD) (rk : Nat → Nat) (s : XS) : Prop := ∀ i, s.l.getD i [] ≠ [] → ∀ k ∈ keysAt ties i, k.kind = 5 → s.l.getD k.n.toNat [] ≠ [] ∧ rk k.n.toNat < rk i
structure XS.kept (opn : List Nat) (s s' : XS) : Prop where
 keep : ∀ j, s.l.getD j [] ≠ [] → s'.l.getD j [] ≠ []
 opn : ∀ j ∈ opn, s'.l.getD j [] = s.l.getD j []
theorem fold_goodR {ties : List TieD} {opn : List Nat} {g : Nat → XS → List KeyD × XS} (hm : ∀ (j : Nat) (s : XS), s.mono (g j s).2) (hok : ∀ (j : Nat) (s : XS), s.ok ties.length → (g j s).2.ok ties.length)
   (hg : ∀ (j : Nat) (s : XS) (rk : Nat → Nat), s.ok ties.length → s.goodR ties rk → j < ties.length → (g j s).2.circle = false → (∃ rk', (g j s).2.goodR ties rk') ∧ s.kept opn (g j s).2 ∧ (g j s).2.l.getD j [] ≠ [] ∧ (g j s).1 ≠ []) :
   ∀ (l : List KeyD) (a : List KeyD × XS) (rk : Nat → Nat), linkK ties.length l → a.2.ok ties.length → a.2.goodR ties rk → (l.foldl (expStep g) a).2.circle = false → (∃ rk', (l.foldl (expStep g) a).2.goodR ties rk') ∧ a.2.kept opn (l.foldl (expStep g) a).2 ∧ (∀ k ∈ l, k.kind = 5 → (l.foldl (expStep g) a).2.l.getD k.n.toNat [] ≠ []) ∧ ((a.1 ≠ [] ∨ l ≠ []) → (l.foldl (expStep g) a).1 ≠ [])
 | [], a, rk, _, _, hgd, _ => ⟨⟨rk, hgd⟩, ⟨fun _ h => h, fun _ _ => rfl⟩, (fun k hk => by cases hk), fun h => h.resolve_right (fun e => e rfl)⟩
 | k :: l, a, rk, hl, ha, hgd, hc => by
   have hmm : (expStep g a k).2.mono (l.foldl (expStep g) (expStep g a k)).2 := fold_mono hm l _
   have hc1 := hmm.offc hc
   have hll : linkK ties.length l := fun x hx => hl x (List.mem_cons_of_mem _ hx)
   rw [List.foldl_cons]
   by_cases h5 : k.kind = 5
   · have he : expStep g a k = (a.1 ++ (g k.n.toNat a.2).1, (g k.n.toNat a.2).2) := by unfold expStep; rw [if_pos h5]
     rw [List.foldl_cons, he] at hc
     rw [he] at hc1
     rw [he]
     obtain ⟨⟨rk1, g1⟩, g2, g3, g4⟩ := hg k.n.toNat a.2 rk ha hgd (hl k List.mem_cons_self h5) hc1
     obtain ⟨r1, r2, r3, r4⟩ := fold_goodR hm hok hg l (a.1 ++ (g k.n.toNat a.2).1, (g k.n.toNat a.2).2) rk1 hll (hok _ _ ha) g1 hc
     refine ⟨r1, ⟨fun j hj => r2.keep j (g2.keep j hj), fun j hj => (r2.opn j hj).trans (g2.opn j hj)⟩, fun x hx hx5 => ?_, fun _ => r4 (.inl ?_)⟩
     · rcases List.mem_cons.1 hx with rfl | hx
       · exact r2.keep _ g3
       · exact r3 x hx hx5
     · exact fun e => g4 (List.append_eq_nil_iff.1 e).2
   · have he : expStep g a k = (a.1 ++ [k], a.2) := by unfold expStep; rw [if_neg h5]
     obtain ⟨r1, r2, r3, r4⟩ := fold_goodR hm hok hg l (a.1 ++ [k], a.2) rk hll ha hgd (by rw [List.foldl_cons, he] at hc; exact hc)
     rw [he]
     refine ⟨r1, r2, fun x hx hx5 => ?_, fun _ => r4 (.inl ?_)⟩
     · rcases List.mem_cons.1 hx with rfl | hx
       · exact absurd hx5 h5
       · exact r3 x hx hx5
     · simp
theorem rk_top (rk : Nat → Nat) : ∀ n, ∃ M, ∀ j, j < n → rk j < M
 | 0 => ⟨0, fun j hj => absurd hj (Nat.not_lt_zero _)⟩
 | n + 1 => by
   obtain ⟨M, h⟩ := rk_top rk n
   refine ⟨M + rk n + 1, fun j hj => ?_⟩
   by_cases hjn : j = n
   · subst hjn; omega
   · have := h j (by omega); omega
theorem expF_goodR {ties : List TieD} (hk : Hk ties) : ∀ (f : Nat) (opn : List Nat) (i : Nat) (s : XS) (rk : Nat → Nat), opn.Nodup → (∀ x ∈ opn, x < ties.length) → ties.length + 1 ≤ f + opn.length → s.ok ties.length → s.goodR ties rk → i < ties.length → (expF ties f opn i s).2.circle = false → (∃ rk', (expF ties f opn i s).2.goodR ties rk') ∧ s.kept opn (expF ties f opn i s).2 ∧ (expF ties f opn i s).2.l.getD i [] ≠ [] ∧ (expF ties f opn i s).1 ≠ []
 | 0, opn, i, s, _, hnd, hlt, hf, _, _, _, _ => absurd (pigeon _ _ hnd hlt) (by omega)
 | f + 1, opn, i, s, rk, hnd, hlt, hf, hs, hgd, hi, hc => by
   unfold expF at hc ⊢
   by_cases ho : i ∈ opn
   · rw [if_pos ho] at hc; cases hc
   · rw [if_neg ho] at hc ⊢
     by_cases hlen : 0 < (s.l.getD i []).length
     · rw [if_pos hlen]
       have hne : s.l.getD i [] ≠ [] := fun e => by rw [e] at hlen; cases hlen
       exact ⟨⟨rk, hgd⟩, ⟨fun _ h => h, fun _ _ => rfl⟩, hne, hne⟩
     · rw [if_neg hlen] at hc ⊢
       have hnil : s.l.getD i [] = [] := List.eq_nil_of_length_eq_zero (by omega)
       have hnd2 : (opn ++ [i]).Nodup := List.nodup_append.2 ⟨hnd, by simp, fun a ha b hb => by simp at hb; subst hb; exact fun e => ho (e ▸ ha)⟩
       have hlt2 : ∀ x ∈ opn ++ [i], x < ties.length := fun x hx => by
         rcases List.mem_append.1 hx with h | h
         · exact hlt x h
         · rw [List.mem_singleton.1 h]; exact hi
       have hfold := fold_goodR (ties := ties) (opn := opn ++ [i]) (g := fun j s => expF ties f (opn ++ [i]) j s) (fun j s => expF_mono ties f _ j s) (fun j s h => (expF_ok ties f _ j s h).1)
         (fun j s rk h1 h2 h3 h4 => expF_goodR hk f (opn ++ [i]) j s rk hnd2 hlt2 (by simp; omega) h1 h2 h3 h4) (keysAt ties i) ([], s) rk (hk i hi).2 hs hgd
       have hfok := (fold_ok (n := ties.length) (g := fun j s => expF ties f (opn ++ [i]) j s) (fun j s h => expF_ok ties f _ j s h) (keysAt ties i) ([], s) hs).1
       generalize hR : (keysAt ties i).foldl (expStep fun j s => expF ties f (opn ++ [i]) j s) ([], s) = R at hc hfold hfok ⊢
       obtain ⟨acc, s1⟩ := R
       obtain ⟨⟨rk1, r1⟩, r2, r3, r4⟩ := hfold hc
       have hacc : acc ≠ [] := r4 (.inr (hk i hi).1)
       have hsl1 : i < s1.l.length := by have := hfok.1; simp only at this; omega
       have hi1 : s1.l.getD i [] = [] := by
         have := r2.opn i (by simp)
         rw [show s1.l.getD i [] = s.l.getD i [] from this]; exact hnil
       have hne : ∀ j, s1.l.getD j [] ≠ [] → i ≠ j := fun j hj e => hj (e ▸ hi1)
       have hcut : acc.take 33 ≠ [] := fun e => hacc (by cases acc with | nil => rfl | cons a l => simp at e)
       obtain ⟨M, hM⟩ := rk_top rk1 ties.length
       have hlk : ∀ j, ∀ k ∈ keysAt ties j, k.kind = 5 → k.n.toNat < ties.length := fun j k hkj h5 => by
         by_cases hj : j < ties.length
         · exact (hk j hj).2 k hkj h5
         · unfold keysAt at hkj
           rw [List.getElem?_eq_none (by omega)] at hkj; cases hkj
       unfold expDone
       refine ⟨⟨fun j => if j = i then M else rk1 j, fun j hj k hkj h5 => ?_⟩, ⟨fun j hj => ?_, fun j hj => ?_⟩, ?_, hcut⟩
       · show (s1.l.set i (acc.take 33)).getD k.n.toNat [] ≠ [] ∧ (if k.n.toNat = i then M else rk1 k.n.toNat) < if j = i then M else rk1 j
         by_cases hij : i = j
         · subst hij
           have h6 : s1.l.getD k.n.toNat [] ≠ [] := r3 k hkj h5
           have h7 := hne _ h6
           rw [getD_set_ne h7, if_neg (Ne.symm h7), if_pos rfl]
           exact ⟨h6, hM _ (hlk _ k hkj h5)⟩
         · have hj' : s1.l.getD j [] ≠ [] := by
             have : (s1.l.set i (acc.take 33)).getD j [] ≠ [] := hj
             rwa [getD_set_ne hij] at this
           obtain ⟨q1, q2⟩ := r1 j hj' k hkj h5
           have h7 := hne _ q1
           rw [getD_set_ne h7, if_neg (Ne.symm h7), if_neg (Ne.symm hij)]
           exact ⟨q1, q2⟩
       · show (s1.l.set i (acc.take 33)).getD j [] ≠ []
         by_cases hij : i = j
         · subst hij; rw [getD_set_self hsl1]; exact hcut
         · rw [getD_set_ne hij]; exact r2.keep j hj
       · show (s1.l.set i (acc.take 33)).getD j [] = _
         have hij : i ≠ j := fun e => ho (e ▸ hj)
         rw [getD_set_ne hij]; exact r2.opn j (List.mem_append_left _ hj)
       · show (s1.l.set i (acc.take 33)).getD i [] ≠ []
         rw [getD_set_self hsl1]; exact hcut
theorem expRun_goodR {ties : List TieD} (hk : Hk ties) : ∀ m, m ≤ ties.length → (expRun ties m).circle = false → (∃ rk, (expRun ties m).goodR ties rk) ∧ ∀ i, i < m → (expRun ties m).l.getD i [] ≠ []
 | 0, _, _ => ⟨⟨fun _ => 0, fun i hi => absurd getD_repl hi⟩, fun i hi => by omega⟩
 | m + 1, hm, hc => by
   rw [expRun_succ] at hc ⊢
   have hmo := expF_mono ties (ties.length + 1) [] m (expRun ties m)
   obtain ⟨⟨rk, h1⟩, h2⟩ := expRun_goodR hk m (by omega) (hmo.offc hc)
   obtain ⟨g1, g2, g3, _⟩ := expF_goodR hk (ties.length + 1) [] m (expRun ties m) rk List.nodup_nil (fun x hx => by cases hx) (by simp) (expRun_ok ties m) h1 (by omega) hc
   refine ⟨g1, fun i hi => ?_⟩
   by_cases him : i = m
   · subst him; exact g3
   · exact g2.keep i (h2 i (by omega))
theorem expansionF_circle {ties : List TieD} (hk : Hk ties) (h : ¬ Acyc ties) : expansionF ties = ([], 151) := by
 have he : expAll ties = expRun ties ties.length := rfl
 unfold expansionF
 rw [he]
 by_cases hc : (expRun ties ties.length).circle = true
 · rw [if_pos hc]
 · obtain ⟨⟨rk, h1⟩, h2⟩ := expRun_goodR hk ties.length (Nat.le_refl _) (by simpa using hc)
   exact absurd ⟨rk, fun i hi k hkk h5 => (h1 i (h2 i hi) k hkk h5).2⟩ h
theorem filter_lt {α : Type} {p q : α → Bool} {j : α} : ∀ {l : List α}, (∀ x ∈ l, p x = true → q x = true) → j ∈ l → p j = false → q j = true → (l.filter p).length < (l.filter q).length
 | [], _, h, _, _ => by cases h
 | a :: l, h, hj, hp, hq => by
   have hle : ∀ l : List α, (∀ x ∈ l, p x = true → q x = true) → (l.filter p).length ≤ (l.filter q).length := by
     intro l
     induction l with
     | nil => intro _; exact Nat.le_refl _
     | cons b l ih =>
       intro h
       have h1 := ih fun x hx => h x (List.mem_cons_of_mem _ hx)
       have h2 := h b List.mem_cons_self
       rw [List.filter_cons, List.filter_cons]
       cases hb : p b
       · cases q b <;> simp <;> omega
       · rw [h2 hb]; simp; omega
   have hl := fun x hx => h x (List.mem_cons_of_mem _ hx)
   rw [List.filter_cons, List.filter_cons]
   rcases List.mem_cons.1 hj with rfl | hj
   · rw [hp, hq]
     have := hle l hl
     simp; omega
   · have h1 := filter_lt hl hj hp hq
     have h2 := h a List.mem_cons_self
     cases hb : p a
     · cases q a <;> simp <;> omega
     · rw [h2 hb]; simp; omega
theorem acyc_low {ties : List TieD} (hk : Hk ties) (h : Acyc ties) : ∃ rk, Ranked ties rk ∧ ∀ i, i < ties.length → rk i < ties.length := by
 obtain ⟨rk, hr⟩ := h
 refine ⟨fun i => ((List.range ties.length).filter fun j => decide (rk j < rk i)).length, fun i hi k hkk h5 => ?_, fun i hi => ?_⟩
 · have h1 := hr i hi k hkk h5
   refine filter_lt (j := k.n.toNat) (fun x _ hx => ?_) (List.mem_range.2 ((hk i hi).2 k hkk h5)) (by simp) (by simpa using h1)
   have := of_decide_eq_true hx
   exact decide_eq_true (by omega)
 · have h1 := filter_lt (p := fun j => decide (rk j < rk i)) (q := fun _ => true) (j := i) (l := List.range ties.length) (fun _ _ _ => rfl) (List.mem_range.2 hi) (by simp) rfl
   rw [show (List.range ties.length).filter (fun _ => true) = List.range ties.length from List.filter_eq_self.2 fun _ _ => rfl, List.length_range] at h1
   exact h1
end Go.Fr
namespace Go.Fr
open Go.RowKit Go.Kx
namespace RulesD
def namedB (fr : List UInt8 → Bool) (r : RulesD) : Bool := fr r.name && (r.n0.all fr && (r.n1.all fr && (r.n2.all fr && r.n3.all fr)))
theorem check_zero {fr : List UInt8 → Bool} {r : RulesD} : r.check fr = 0 ↔ r.large = false ∧ r.namedB fr = true ∧ r.once = true ∧ r.allOk = true ∧ r.resolved = r := by
 unfold check resolve
 rw [← namedB]
 cases h1 : r.large
 · cases h2 : r.namedB fr
   · simp
   · cases h3 : r.once
     · simp
     · cases h4 : r.allOk
       · simp
       · simp only [Bool.not_true, if_false, Bool.false_eq_true, ne_eq, not_true_eq_false, true_and]
         split <;> simp_all
 · simp
def cut (r : RulesD) (m : Nat) : RulesD := { r with ties := r.ties.take m }
theorem hk_of {r : RulesD} (hs : r.Sound) (hfi : r.fine = true) : Hk r.ties := fun i hi => by
 have hka : keysAt r.ties i = r.ties[i].keys := by unfold keysAt; rw [List.getElem?_eq_getElem hi]; rfl
 rw [hka]
 unfold RulesD.fine at hfi
 simp only [Bool.and_eq_true] at hfi
 have h6 := List.all_eq_true.1 hfi.2.2.2.2.2.2.2.1 _ (List.getElem_mem hi)
 unfold TieD.fine at h6
 rw [Bool.and_eq_true, decide_eq_true_iff] at h6
 refine ⟨fun e => by rw [e] at h6; simp at h6, fun k hk h5 => ?_⟩
 have := (hs.linked _ (List.getElem_mem hi)).2 k hk h5
 omega
end RulesD
end Go.Fr
namespace Go.Fr
open Go.RowKit Go.Kx
def arityF (k : Int) : Int := if k = 1 ∨ k = 2 ∨ k = 3 ∨ k = 4 ∨ k = 5 then 0 else if k = 8 then 1 else if k = 6 ∨ k = 7 ∨ k = 9 ∨ k = 10 then 2 else if k = 11 then 4 else -1
namespace Ex
def NodeP (x : Ex) : Prop := (x.l.length : Int) = arityF x.kind ∧ ((x.kind = 1 ∨ x.kind = 8) → (0 ≤ x.n ∧ x.n ≤ 1099511627776) ∧ (1 ≤ x.d ∧ x.d ≤ 1099511627776)) ∧ (¬ (x.kind = 1 ∨ x.kind = 8) → x.d = 0 ∧ (¬ (x.kind = 2 ∨ x.kind = 5) → x.n = 0)) ∧ (¬ (x.kind = 2 ∨ x.kind = 5) → x.name = [])
theorem node_iff (x : Ex) : x.node = true ↔ x.NodeP := by
 unfold node NodeP shapeF arityF
 generalize x.kind = k
 generalize x.name = s
 generalize x.n = n
 generalize x.d = d
 have hm : 0 ≤ (x.l.length : Int) := by omega
 generalize (x.l.length : Int) = m at hm ⊢
 by_cases h1 : k = 1
 · subst h1; simp; grind
 by_cases h2 : k = 2
 · subst h2; simp
 by_cases h3 : k = 3
 · subst h3; simp; grind
 by_cases h4 : k = 4
 · subst h4; simp; grind
 by_cases h5 : k = 5
 · subst h5; simp
 by_cases h6 : k = 6
 · subst h6; simp; grind
 by_cases h7 : k = 7
 · subst h7; simp; grind
 by_cases h8 : k = 8
 · subst h8; simp; grind
 by_cases h9 : k = 9
 · subst h9; simp; grind
 by_cases h10 : k = 10
 · subst h10; simp; grind
 by_cases h11 : k = 11
 · subst h11; simp; grind
 simp [h1, h2, h3, h4, h5, h6, h7, h8, h9, h10, h11]
 omega
theorem fine_no {x : Ex} (h : ¬ x.NodeP) : x.fine = false := by
 rw [fine_l]
 have : x.node = false := by
   cases e : x.node with
   | false => rfl
   | true => exact absurd ((node_iff x).1 e) h
 rw [this]; rfl
theorem fine_yes {x : Ex} (h : x.NodeP) : x.fine = x.l.all fine := by
 rw [fine_l, (node_iff x).2 h]; rfl
end Ex
end Go.Fr
namespace Go.Fr
open Go.RowKit Go.Kx
def refersF (keys : List KeyD) (s : List Bool) : Bool := keys.any fun k => decide (k.kind = 5) && s.getD k.n.toNat false
def circF (ties : List TieD) : Nat → List Bool
 | 0 => List.replicate ties.length true
 | t + 1 => ties.map fun x => refersF x.keys (circF ties t)
def countS (keys : List KeyD) (l : List Nat) : Nat := keys.foldl (fun n k => if k.kind = 5 then n + l.getD k.n.toNat 0 else n + 1) 0
def manyF (ties : List TieD) : Nat → List Nat
 | 0 => List.replicate ties.length 0
 | t + 1 => ties.map fun x => min (countS x.keys (manyF ties t)) 33
theorem keysAt_get {ties : List TieD} {i : Nat} (h : i < ties.length) : keysAt ties i = ties[i].keys := by unfold keysAt; rw [List.getElem?_eq_getElem h]; rfl
namespace Ex
mutual
def later (i : Nat) : Ex → Bool
 | mk k s n d l => RulesD.lateN i (mk k s n d l) || laters i l
def laters (i : Nat) : List Ex → Bool
 | [] => false
 | x :: xs => later i x || laters i xs
end
mutual
theorem later_pre (i : Nat) : ∀ x : Ex, x.later i = x.pre.any (RulesD.lateN i)
 | mk k s n d l => by simp only [later, pre, List.any_cons, laters_pre i l]
theorem laters_pre (i : Nat) : ∀ l : List Ex, laters i l = (pres l).any (RulesD.lateN i)
 | [] => rfl
 | x :: xs => by simp only [laters, pres, List.any_append, later_pre i x, laters_pre i xs]
end
end Ex
end Go.Fr
namespace Go.Proofs.YthldagplhklbnaaGreatDoor
open Go Go.RowKit Go.Kx Go.Fr
set_option maxRecDepth 100000 in
theorem arity15_any (k : Int) : FnC Tryz.prog 101 [exI .i64 k] [] (fun p loc => p = exI .i64 (arityF k) ∧ loc = []) := by
 refine Zb7 Tryz.func101 rfl Tryz.ntmps101 rfl fun w0 F0 out => ?_
 unfold arityF
 (repeat' (first | refine Za8 ?_ | refine Za1 ?_ | refine Za6 ?_ | (apply Za9; (first | exact Za3 rfl | exact Za4 rfl | (apply Zah; exact Zcd rfl rfl)); exact rfl) | refine Zaa ?_ | refine Zag ?_ | refine Zaq ?_ | (refine Zac rfl (fun hb => ?_) (fun hb => ?_) <;> (repeat (first | replace hb := Zam hb | replace hb := Zan hb)) <;> (try (exfalso; contradiction)))))
 all_goals (refine ⟨.inr rfl, ret1 rfl (.tmp rfl) (List.nil_sublist _) ⟨congrArg (exI .i64) ?_, rfl⟩⟩)
 all_goals (repeat (first | rfl | (rw [if_pos (by omega)]) | (rw [if_neg (by omega)])))
set_option maxHeartbeats 4000000 in
set_option maxRecDepth 100000 in
theorem rexpr15_any : ∀ (k : Nat) (x : Ex), FnC Tryz.prog 75 [agg (exV k x)] [] (fun p loc => p = exB x.fine ∧ loc = []) := by
 intro k
 induction k with
 | zero => intro x; exact Zbe (i := 0) rfl Says_ex0 fun h => h.elim
 | succ k ih =>
   intro x
   refine Zbe (i := 0) rfl (Zca (i := 4) (p := isl (eEx k) x.l) rfl Zbl) fun hlen => ?_
   obtain ⟨hlen, -⟩ := hlen
   simp only [maxLen] at hlen
   show FnC Tryz.prog 75 [agg [exI .i64 x.kind, exT x.name, exI .i64 x.n, exI .i64 x.d, isl (eEx k) x.l]] [] (fun p loc => p = exB x.fine ∧ loc = [])
   refine Zb7 Tryz.func75 rfl Tryz.ntmps75 rfl fun w0 F0 out => ?_
   have hno : ¬ x.NodeP → x.fine = false := Ex.fine_no
   have hyes : x.NodeP → x.fine = x.l.all Ex.fine := Ex.fine_yes
   generalize x.fine = fx at hno hyes ⊢
   unfold Ex.NodeP at hno hyes
   (repeat' (first | (apply cuts_at 1; refine Stop.out ?_) | refine Za8 ?_ | refine Za1 ?_ | refine Za6 ?_ | (apply Za9; (exact Za4 rfl); exact rfl) | (apply Zaj; exact rfl; (apply Zc9; refine Zbz rfl ?_; intro _))))
   refine ⟨Zbn (Zch (k := 0) (t := 1) rfl rfl) ?_⟩
   refine WP_cut (fun _ : Unit => ([(1, fp [exI .i64 x.kind, exT x.name, exI .i64 x.n, exI .i64 x.d, isl (eEx k) x.l])], [])) (fun _ => (x.l.length : Int) = arityF x.kind) ?_ fun _ hl => ?_
   · refine Za8 ?_
     (refine Zbx 7 rfl ?_)
     all_goals ((apply Za2 0 rfl (by decide +kernel) rfl (by repeat (first | exact Za5)) Za0; (first | (apply Zat; first | exact Zay rfl rfl rfl)); exact rfl))
     all_goals ((apply Zb0 1 rfl (by decide +kernel) rfl (by decide +kernel) (by repeat (first | exact Za5)) Za0; (first | (apply Za7; first | exact Zb1 rfl rfl)); exact rfl))
     all_goals ((apply Za2 2 rfl (by decide +kernel) rfl (by repeat (first | exact Za5)) Za0; (first | (apply Zax; first | exact Zb3 rfl rfl)); exact rfl))
     all_goals ((apply Za2 3 rfl (by decide +kernel) rfl (by repeat (first | exact Za5)) Za0; (first | (apply Zat; first | exact Zay rfl rfl rfl)); exact rfl))
     all_goals ((apply Zb0 4 rfl (by decide +kernel) rfl (by decide +kernel) (by repeat (first | exact Za5)) Za0; (first | (apply Za7; first | exact Zb1 rfl rfl)); exact rfl))
     all_goals ((apply Zap 5; exact (by decide +kernel); exact rfl; exact Za0; exact (fun _ _ h => h); (apply Zao; (refine Zaw Tryz.func101 rfl (arity15_any _) rfl ?_; rintro _ _ ⟨rfl, rfl⟩))))
     all_goals ((apply Za2 6 rfl (by decide +kernel) rfl (by repeat (first | exact Za5)) Za0; (first | (apply Zah; first | exact Zc3 rfl rfl)); exact rfl))
     all_goals (refine Zb9 (by decide +kernel) ?_)
     all_goals ((repeat' (first | refine Za8 ?_ | refine Za1 ?_ | refine Za6 ?_ | (apply Za9; (exact Za4 rfl); exact rfl) | refine Zag ?_ | refine Zaq ?_ | (refine Zac rfl (fun hb => ?_) (fun hb => ?_) <;> (repeat (first | replace hb := Zam hb | replace hb := Zan hb | replace hb := Zbr hb | replace hb := Zbs hb)) <;> (try (exfalso; fail))))))
     · rw [hno (fun e => by have := e.1; omega)]
       exact ⟨.inr rfl, ret1 rfl (.tmp rfl) (List.nil_sublist _) ⟨rfl, rfl⟩⟩
     · exact Zbp () (by omega) (Zae (by repeat (first | exact Zai | refine Zad rfl ?_)) (List.Sublist.refl _))
   have hno : ¬ (((x.kind = 1 ∨ x.kind = 8) → (0 ≤ x.n ∧ x.n ≤ 1099511627776) ∧ (1 ≤ x.d ∧ x.d ≤ 1099511627776)) ∧ (¬ (x.kind = 1 ∨ x.kind = 8) → x.d = 0 ∧ (¬ (x.kind = 2 ∨ x.kind = 5) → x.n = 0)) ∧ (¬ (x.kind = 2 ∨ x.kind = 5) → x.name = [])) → fx = false := fun h => hno fun e => h e.2
   have hyes := fun h => hyes ⟨hl, h⟩
   (repeat' (first | (apply Zbh 11; refine Stop.out ?_) | refine Za8 ?_ | refine Za1 ?_ | refine Za6 ?_ | (apply Za9; (first | exact Za3 rfl | exact Za4 rfl | exact Zas (b := true) rfl (fun _ => rfl) (fun e => by cases e) | exact Zas (b := false) rfl (fun e => by cases e) (fun _ => rfl) | (apply Za7; exact Zb1 rfl rfl) | (apply Zat; exact Zay rfl rfl rfl) | (apply Zah; first | exact Zcd rfl rfl | exact Zc3 rfl rfl) | (apply g_un; exact Zbg rfl)); exact rfl) | (refine Zbq rfl rfl rfl rfl rfl ?_) | (refine WPL_offu rfl rfl rfl rfl ?_) | (apply Zbt; exact rfl; exact rfl; exact rfl; (first | exact Za3 rfl | exact Zas (b := true) rfl (fun _ => rfl) (fun e => by cases e) | exact Zas (b := false) rfl (fun e => by cases e) (fun _ => rfl) | (apply Za7; exact Zb1 rfl rfl) | (apply Zat; exact Zay rfl rfl rfl) | (apply Zah; first | exact WT_tne rfl rfl | exact Zcd rfl rfl | exact Zc3 rfl rfl) | (apply g_un; exact Zbg rfl)); exact rfl) | refine Zag ?_ | refine Zaq ?_ | refine Zb4 rfl ?_ | refine Zb8 rfl ?_ | (apply Zaj; exact rfl; (apply Zao; (refine Zaw Tryz.func34 rfl (rwithin15_any _ _ _) rfl ?_; rintro _ _ ⟨rfl, rfl⟩))) | (apply Zc8; exact rfl; exact rfl; exact rfl; exact rfl; (apply Zao; (refine Zaw Tryz.func34 rfl (rwithin15_any _ _ _) rfl ?_; rintro _ _ ⟨rfl, rfl⟩))) | (refine Zbm rfl rfl (fun hb => ?_) (fun hb => ?_) <;> (repeat (first | replace hb := Zam hb | replace hb := Zan hb | replace hb := Zbr hb | replace hb := Zbs hb)) <;> (try (exfalso; first | contradiction | omega))) | (refine Zac rfl (fun hb => ?_) (fun hb => ?_) <;> (repeat (first | replace hb := Zam hb | replace hb := Zan hb | replace hb := Zbr hb | replace hb := Zbs hb)) <;> (try (exfalso; omega)))))
   all_goals (first | (rw [hno (by clear hno hyes; grind)]; exact ⟨.inr rfl, ret1 rfl (.tmp rfl) (List.nil_sublist _) ⟨rfl, rfl⟩⟩) | (have hfx := hyes (by clear hno hyes; grind)))
   all_goals (rw [hfx]; clear hno hyes hfx hl)
   all_goals (refine ⟨Zbn (Zae (env' := [(1, fp [exI .i64 x.kind, exT x.name, exI .i64 x.n, exI .i64 x.d, isl (eEx k) x.l])]) (loc' := []) (by repeat (first | exact Zai | refine Zad rfl ?_)) (List.Sublist.refl _)) ?_⟩)
   all_goals ((repeat' (first | refine Za1 ?_ | refine Za6 ?_ | (apply Za9; (first | exact Za4 rfl); exact rfl) | refine Zaa ?_)))
   all_goals (refine Zbv (fun i : Nat => ([(1, fp [exI .i64 x.kind, exT x.name, exI .i64 x.n, exI .i64 x.d, isl (eEx k) x.l]), (4, exI .i64 (i : Int))], [])) (fun i => i ≤ x.l.length ∧ (x.l.take i).all Ex.fine = true) (fun i => x.l.length - i) 0 ?_ ⟨Nat.zero_le _, rfl⟩ fun i hi => ?_)
   all_goals (try exact Zae (by repeat (first | exact Zai | refine Zad rfl ?_)) (List.Sublist.refl _))
   all_goals (obtain ⟨hi, hpre⟩ := hi; by_cases hlt : i < x.l.length)
   all_goals (first | (have hcall := ih x.l[i]) | skip)
   all_goals (first | (cases hv : x.l[i].fine) | (rw [show i = x.l.length by omega, List.take_length] at hpre))
   all_goals (try rw [hv] at hcall)
   all_goals (first | (have hok := all_take hlt hpre hv) | (rw [all_not hlt hv]) | (rw [hpre]))
   all_goals (clear hpre)
   all_goals ((repeat' (first | refine Za8 ?_ | refine Za1 ?_ | refine Za6 ?_ | (apply Za9; (first | exact Za3 rfl | exact Za4 rfl | (apply Za7; first | exact Zb1 rfl rfl | exact Zb2 rfl rfl) | (apply Zat; exact Zay rfl rfl rfl) | (apply Zah; first | exact Zau rfl rfl | exact Zbf rfl rfl) | (apply Zak; exact Zar rfl rfl rfl) | (apply Zax; exact Zb3 rfl rfl) | (apply g_un; exact Zbg rfl)); exact rfl) | refine Zaa ?_ | refine Zag ?_ | refine Zaq ?_ | refine Zbk ?_ | refine Zb4 rfl ?_ | refine Zb8 rfl ?_ | (apply Zaj; exact rfl; (apply Zao; (refine Zaw Tryz.func75 rfl hcall rfl ?_; rintro _ _ ⟨rfl, rfl⟩))) | (refine Zac rfl (fun hb => ?_) (fun hb => ?_) <;> (repeat (first | replace hb := Zam hb | replace hb := Zan hb)) <;> (try (exfalso; omega))))))
   all_goals (try (exfalso; first | contradiction | omega))
   all_goals (first | exact ⟨.inr rfl, ret1 rfl (.tmp rfl) (List.nil_sublist _) ⟨rfl, rfl⟩⟩ | exact ⟨i + 1, ⟨by omega, hok⟩, by omega, Zae (by repeat (first | exact Zai | refine Zad rfl ?_)) (List.Sublist.refl _)⟩)
end Go.Proofs.YthldagplhklbnaaGreatDoor
namespace Go.Fr
open Go.RowKit Go.Kx
instance fits_boolI : Fits eBool (fun b => [exB b]) := fits_bool'
def boolV (b : Bool) : List SP := [exB b]
instance fits_boolV : Fits eBool boolV := fits_bool'
instance {b : Bool} : Scs (boolV b) := by unfold boolV; infer_instance
end Go.Fr
namespace Go.Proofs.YthldagplhklbnaaGreatDoor
open Go Go.RowKit Go.Kx Go.Fr
end Go.Proofs.YthldagplhklbnaaGreatDoor
namespace Go.Fr
open Go.RowKit Go.Kx
theorem ItemD.fine_iff (c : ItemD) : c.fine = (inB c.value 0 1048576 && inB c.most 1 100) := by
 unfold ItemD.fine inB; rw [Bool.eq_iff_iff]; simp; omega
theorem fallF_drop {l : List Int} {i : Nat} (h : i < l.length) (p : Int) : fallF p (l.drop i) = (inB l[i] 0 p && fallF l[i] (l.drop (i + 1))) := by
 rw [List.drop_eq_getElem_cons h, fallF]
end Go.Fr
namespace Go.Proofs.YthldagplhklbnaaGreatDoor
open Go Go.RowKit Go.Kx Go.Fr
set_option maxHeartbeats 1000000 in
set_option maxRecDepth 100000 in
theorem items15_any (l : List ItemD) : FnC Tryz.prog 32 [isl eItem l] [] (fun p loc => p = exB (l.all ItemD.fine) ∧ loc = []) := by
 refine Zbe (i := 0) rfl Zbl fun hly => ?_
 obtain ⟨hly, -⟩ := hly
 simp only [maxLen] at hly
 refine Zb7 Tryz.func32 rfl Tryz.ntmps32 rfl fun w0 F0 out => ?_
 (repeat' (first | refine Za8 ?_ | refine Za1 ?_ | refine Za6 ?_ | (apply Za9; (first | exact Za4 rfl); exact rfl) | refine Zaa ?_))
 refine Zbv (fun i : Nat => ([(0, isl eItem l), (3, exI .i64 (i : Int))], [])) (fun i => i ≤ l.length ∧ (l.take i).all ItemD.fine = true) (fun i => l.length - i) 0 ?_ ⟨Nat.zero_le _, rfl⟩ fun i hi => ?_
 · exact Zae (by repeat (first | exact Zai | refine Zad rfl ?_)) (List.Sublist.refl _)
 obtain ⟨hi, hpre⟩ := hi
 by_cases hlt : i < l.length
 · cases hv : l[i].fine
   · rw [all_not hlt hv]
     rw [ItemD.fine_iff] at hv
     unfold inB at hv
     simp only [Bool.and_eq_false_iff, decide_eq_false_iff_not] at hv
     clear hpre
     (repeat' (first | refine Za8 ?_ | refine Za1 ?_ | refine Za6 ?_ | (apply Za9; (first | exact Za3 rfl | exact Za4 rfl | exact Zas (b := true) rfl (fun _ => rfl) (fun e => by cases e) | exact Zas (b := false) rfl (fun e => by cases e) (fun _ => rfl) | (apply Za7; exact Zb1 rfl rfl) | (apply Zat; exact Zay rfl rfl rfl) | (apply Zah; exact Zau rfl rfl) | (apply Zak; exact Zar rfl rfl rfl) | (apply Zax; exact Zb3 rfl rfl) | (apply g_un; exact Zbg rfl)); exact rfl) | (refine Zbq rfl rfl rfl rfl rfl ?_) | (apply Zbt; exact rfl; exact rfl; exact rfl; (first | exact Za3 rfl | (apply Za7; exact Zb1 rfl rfl) | (apply Zat; exact Zay rfl rfl rfl) | (apply Zak; exact Zar rfl rfl rfl) | (apply g_un; exact Zbg rfl)); exact rfl) | refine Zaa ?_ | refine Zag ?_ | refine Zaq ?_ | refine Zb4 rfl ?_ | (apply Zaj; exact rfl; (apply Zao; (refine Zaw Tryz.func34 rfl (rwithin15_any _ _ _) rfl ?_; rintro _ _ ⟨rfl, rfl⟩))) | (apply Zc8; exact rfl; exact rfl; exact rfl; exact rfl; (apply Zao; (refine Zaw Tryz.func34 rfl (rwithin15_any _ _ _) rfl ?_; rintro _ _ ⟨rfl, rfl⟩))) | (refine Zbm rfl rfl (fun hb => ?_) (fun hb => ?_) <;> (repeat (first | replace hb := Zam hb | replace hb := Zan hb | replace hb := Zbr hb | replace hb := Zbs hb)) <;> (try (exfalso; fail))) | (refine Zac rfl (fun hb => ?_) (fun hb => ?_) <;> (repeat (first | replace hb := Zam hb | replace hb := Zan hb | replace hb := Zbr hb | replace hb := Zbs hb)) <;> (try (exfalso; omega)))))
     all_goals (try (exfalso; first | contradiction | omega | (simp only [inB, decide_eq_true_eq, decide_eq_false_iff_not] at *; omega)))
     all_goals exact ⟨.inr rfl, ret1 rfl (.tmp rfl) (List.nil_sublist _) ⟨rfl, rfl⟩⟩
   · have hok := all_take hlt hpre hv
     rw [ItemD.fine_iff] at hv
     unfold inB at hv
     simp only [Bool.and_eq_true, decide_eq_true_eq] at hv
     clear hpre
     (repeat' (first | refine Za8 ?_ | refine Za1 ?_ | refine Za6 ?_ | (apply Za9; (first | exact Za3 rfl | exact Za4 rfl | exact Zas (b := false) rfl (fun e => by cases e) (fun _ => rfl) | (apply Za7; exact Zb1 rfl rfl) | (apply Zat; exact Zay rfl rfl rfl) | (apply Zah; first | exact Zau rfl rfl | exact Zbf rfl rfl) | (apply Zak; exact Zar rfl rfl rfl) | (apply Zax; exact Zb3 rfl rfl) | (apply g_un; exact Zbg rfl)); exact rfl) | (apply Zbt; exact rfl; exact rfl; exact rfl; (first | exact Za3 rfl | (apply Za7; exact Zb1 rfl rfl) | (apply Zat; exact Zay rfl rfl rfl) | (apply Zak; exact Zar rfl rfl rfl) | (apply g_un; exact Zbg rfl)); exact rfl) | refine Zaa ?_ | refine Zag ?_ | (apply Zaj; exact rfl; (apply Zao; (refine Zaw Tryz.func34 rfl (rwithin15_any _ _ _) rfl ?_; rintro _ _ ⟨rfl, rfl⟩))) | (apply Zc8; exact rfl; exact rfl; exact rfl; exact rfl; (apply Zao; (refine Zaw Tryz.func34 rfl (rwithin15_any _ _ _) rfl ?_; rintro _ _ ⟨rfl, rfl⟩))) | (refine Zbm rfl rfl (fun hb => ?_) (fun hb => ?_) <;> (repeat (first | replace hb := Zam hb | replace hb := Zan hb | replace hb := Zbr hb | replace hb := Zbs hb)) <;> (try (exfalso; omega))) | (refine Zac rfl (fun hb => ?_) (fun hb => ?_) <;> (repeat (first | replace hb := Zam hb | replace hb := Zan hb | replace hb := Zbr hb | replace hb := Zbs hb)) <;> (try (exfalso; omega)))))
     all_goals (try (exfalso; first | contradiction | omega | (simp only [inB, decide_eq_true_eq, decide_eq_false_iff_not] at *; omega)))
     all_goals exact ⟨i + 1, ⟨by omega, hok⟩, by omega, Zae (by repeat (first | exact Zai | refine Zad rfl ?_)) (List.Sublist.refl _)⟩
 · rw [show i = l.length by omega, List.take_length] at hpre
   rw [hpre]
   (repeat' (first | refine Za8 ?_ | refine Za1 ?_ | refine Za6 ?_ | (apply Za9; (first | exact Za3 rfl | exact Za4 rfl | (apply Zah; exact Zau rfl rfl) | (apply Zax; exact Zb3 rfl rfl)); exact rfl) | refine Zaq ?_ | refine Zbk ?_ | (refine Zac rfl (fun hb => ?_) (fun hb => ?_) <;> (repeat (first | replace hb := Zam hb | replace hb := Zan hb)) <;> (try (exfalso; omega)))))
   all_goals (try (exfalso; omega))
   exact ⟨.inr rfl, ret1 rfl (.tmp rfl) (List.nil_sublist _) ⟨rfl, rfl⟩⟩
set_option maxHeartbeats 1000000 in
set_option maxRecDepth 100000 in
theorem amounts15_any (l : List Int) : FnC Tryz.prog 33 [isl eI l] [] (fun p loc => p = exB (fallF 1099511627776 l) ∧ loc = []) := by
 refine Zbe (i := 0) rfl Zbl fun hly => ?_
 obtain ⟨hly, -⟩ := hly
 simp only [maxLen] at hly
 refine Zb7 Tryz.func33 rfl Tryz.ntmps33 rfl fun w0 F0 out => ?_
 (repeat' (first | refine Za8 ?_ | refine Za1 ?_ | refine Za6 ?_ | (apply Za9; (first | exact Za4 rfl); exact rfl) | refine Zaa ?_))
 refine Zbv (fun i : Nat => ([(0, isl eI l), (3, exI .i64 (i : Int))], [])) (fun i => i ≤ l.length ∧ ∃ p : Int, p ≤ 1099511627776 ∧ (i = 0 → p = 1099511627776) ∧ (∀ j, (h : j < l.length) → i = j + 1 → l[j] = p) ∧ fallF 1099511627776 l = fallF p (l.drop i)) (fun i => l.length - i) 0 ?_ ⟨Nat.zero_le _, 1099511627776, Int.le_refl _, fun _ => rfl, fun j h e => by omega, rfl⟩ fun i hi => ?_
 · exact Zae (by repeat (first | exact Zai | refine Zad rfl ?_)) (List.Sublist.refl _)
 obtain ⟨hi, p, hp1, hp2, hp3, hp4⟩ := hi
 by_cases hlt : i < l.length
 · rw [fallF_drop hlt] at hp4
   cases i with
   | zero =>
     have hp2 := hp2 rfl
     subst hp2
     cases hv : inB l[0] 0 1099511627776
     · rw [hv, Bool.false_and] at hp4
       rw [hp4]
       (repeat' (first | (apply Zbh 4; refine Stop.out ?_) | refine Za8 ?_ | refine Za1 ?_ | refine Za6 ?_ | (apply Za9; (first | exact Za3 rfl | (apply Zah; exact Zau rfl rfl) | (apply Zax; exact Zb3 rfl rfl)); exact rfl) | refine Zaa ?_ | refine Zag ?_ | (refine Zac rfl (fun hb => ?_) (fun hb => ?_) <;> (repeat (first | replace hb := Zam hb | replace hb := Zan hb)) <;> (try (exfalso; omega)))))
       all_goals (try (exfalso; omega))
       refine ⟨?_⟩
       have hw := rwithin15_any l[0] 0 1099511627776
       rw [hv] at hw
       (refine Zbx 22 rfl ?_)
       all_goals ((apply Za2 0 rfl (by decide +kernel) rfl (by repeat (first | exact Za5)) Za0; (first | exact Za3 rfl); exact rfl))
       all_goals ((apply Za2 1 rfl (by decide +kernel) rfl (by repeat (first | exact Za5)) Za0; (first | exact Za3 rfl); exact rfl))
       all_goals ((apply Za2 2 rfl (by decide +kernel) rfl (by repeat (first | exact Za5)) Za0; (first | (apply Zak; first | exact Zar rfl rfl rfl)); exact rfl))
       all_goals ((apply Zb0 3 rfl (by decide +kernel) rfl (by decide +kernel) (by repeat (exact Za5)) Za0; ((apply Za7; exact Zb1 rfl rfl)); exact rfl))
       all_goals ((apply Zap 4; exact (by decide +kernel); exact rfl; exact Za0; exact (fun _ _ h => h); (apply Zao; (refine Zaw Tryz.func34 rfl hw rfl ?_; rintro _ _ ⟨rfl, rfl⟩))))
       all_goals ((apply Za2 5 rfl (by decide +kernel) rfl (by repeat (first | exact Za5)) Za0; (first | (apply g_un; first | exact Zbg rfl)); exact rfl))
       all_goals ((apply Za2 6 rfl (by decide +kernel) rfl (by repeat (first | exact Za5)) Za0; (first | exact Za3 rfl); exact rfl))
       all_goals (first | (refine WPY_case 16 rfl (fun hb => ?_) (fun hb => ?_) <;> (repeat (first | replace hb := Zam hb | replace hb := Zan hb | replace hb := Zbr hb | replace hb := Zbs hb)) <;> (try (exfalso; first | (cases hb; done) | contradiction | omega))) | skip)
       all_goals (first | (refine Zbj 7 rfl (by decide +kernel) rfl (by repeat (first | exact Za5)) rfl rfl rfl rfl rfl ?_))
       all_goals (first | (refine Zbj 8 rfl (by decide +kernel) rfl (by repeat (first | exact Za5)) rfl rfl rfl rfl rfl ?_))
       all_goals (first | (refine Zbj 9 rfl (by decide +kernel) rfl (by repeat (first | exact Za5)) rfl rfl rfl rfl rfl ?_))
       all_goals (first | (refine WPY_case 19 rfl (fun hb => ?_) (fun hb => ?_) <;> (repeat (first | replace hb := Zam hb | replace hb := Zan hb | replace hb := Zbr hb | replace hb := Zbs hb)) <;> (try (exfalso; first | (cases hb; done) | contradiction | omega))) | skip)
       all_goals (first | (refine Zcn 10 rfl (by decide +kernel) rfl (by repeat (first | exact Za5)) rfl rfl rfl rfl ?_))
       all_goals (first | (refine Zcn 11 rfl (by decide +kernel) rfl (by repeat (first | exact Za5)) rfl rfl rfl rfl ?_))
       all_goals (first | (refine Zcn 12 rfl (by decide +kernel) rfl (by repeat (first | exact Za5)) rfl rfl rfl rfl ?_))
       all_goals (first | (refine Zcn 13 rfl (by decide +kernel) rfl (by repeat (first | exact Za5)) rfl rfl rfl rfl ?_))
       all_goals (first | (refine Zcn 14 rfl (by decide +kernel) rfl (by repeat (first | exact Za5)) rfl rfl rfl rfl ?_))
       all_goals (first | (refine Zcn 15 rfl (by decide +kernel) rfl (by repeat (first | exact Za5)) rfl rfl rfl rfl ?_))
       all_goals (first | (refine Zcn 16 rfl (by decide +kernel) rfl (by repeat (first | exact Za5)) rfl rfl rfl rfl ?_))
       all_goals (first | (refine Zcn 17 rfl (by decide +kernel) rfl (by repeat (first | exact Za5)) rfl rfl rfl rfl ?_))
       all_goals (first | (refine Zcn 18 rfl (by decide +kernel) rfl (by repeat (first | exact Za5)) rfl rfl rfl rfl ?_))
       all_goals (first | (refine Zcn 19 rfl (by decide +kernel) rfl (by repeat (first | exact Za5)) rfl rfl rfl rfl ?_))
       all_goals (first | (refine Zbj 20 rfl (by decide +kernel) rfl (by repeat (first | exact Za5)) rfl rfl rfl rfl rfl ?_))
       all_goals ((apply Za2 21 rfl (by decide +kernel) rfl (by repeat (exact Za5)) Za0; (exact Zas (b := true) rfl (fun _ => rfl) (fun e => by cases e)); exact rfl))
       all_goals (refine Zb9 (by decide +kernel) ?_)
       all_goals ((repeat' (first | refine Za8 ?_ | refine Za1 ?_ | refine Za6 ?_ | (apply Za9; (exact Za4 rfl); exact rfl) | refine Zaq ?_ | refine Zb4 rfl ?_)))
       all_goals (try (exfalso; first | contradiction | omega))
       all_goals exact ⟨.inr rfl, ret1 rfl (.tmp rfl) (List.nil_sublist _) ⟨rfl, rfl⟩⟩
     · rw [hv, Bool.true_and] at hp4
       have hv2 := of_decide_eq_true hv
       (repeat' (first | (apply Zbh 4; refine Stop.out ?_) | refine Za8 ?_ | refine Za1 ?_ | refine Za6 ?_ | (apply Za9; (first | exact Za3 rfl | (apply Zah; exact Zau rfl rfl) | (apply Zax; exact Zb3 rfl rfl)); exact rfl) | refine Zaa ?_ | refine Zag ?_ | (refine Zac rfl (fun hb => ?_) (fun hb => ?_) <;> (repeat (first | replace hb := Zam hb | replace hb := Zan hb)) <;> (try (exfalso; omega)))))
       all_goals (try (exfalso; omega))
       refine ⟨?_⟩
       have hw := rwithin15_any l[0] 0 1099511627776
       rw [hv] at hw
       (refine Zbx 22 rfl ?_)
       all_goals ((apply Za2 0 rfl (by decide +kernel) rfl (by repeat (first | exact Za5)) Za0; (first | exact Za3 rfl); exact rfl))
       all_goals ((apply Za2 1 rfl (by decide +kernel) rfl (by repeat (first | exact Za5)) Za0; (first | exact Za3 rfl); exact rfl))
       all_goals ((apply Za2 2 rfl (by decide +kernel) rfl (by repeat (first | exact Za5)) Za0; (first | (apply Zak; first | exact Zar rfl rfl rfl)); exact rfl))
       all_goals ((apply Zb0 3 rfl (by decide +kernel) rfl (by decide +kernel) (by repeat (exact Za5)) Za0; ((apply Za7; exact Zb1 rfl rfl)); exact rfl))
       all_goals ((apply Zap 4; exact (by decide +kernel); exact rfl; exact Za0; exact (fun _ _ h => h); (apply Zao; (refine Zaw Tryz.func34 rfl hw rfl ?_; rintro _ _ ⟨rfl, rfl⟩))))
       all_goals ((apply Za2 5 rfl (by decide +kernel) rfl (by repeat (first | exact Za5)) Za0; (first | (apply g_un; first | exact Zbg rfl)); exact rfl))
       all_goals ((apply Za2 6 rfl (by decide +kernel) rfl (by repeat (first | exact Za5)) Za0; (first | exact Za3 rfl); exact rfl))
       all_goals (first | (refine WPY_case 16 rfl (fun hb => ?_) (fun hb => ?_) <;> (repeat (first | replace hb := Zam hb | replace hb := Zan hb | replace hb := Zbr hb | replace hb := Zbs hb)) <;> (try (exfalso; first | (cases hb; done) | contradiction | omega))) | skip)
       all_goals (first | (apply Za2 7 rfl (by decide +kernel) rfl (by repeat (first | exact Za5)) (Zaz rfl rfl rfl); (first | exact Za3 rfl); exact rfl))
       all_goals (first | (apply Za2 8 rfl (by decide +kernel) rfl (by repeat (first | exact Za5)) (Zaz rfl rfl rfl); (first | (apply Zah; first | exact Zcc rfl rfl)); exact rfl))
       all_goals (first | (apply Za2 9 rfl (by decide +kernel) rfl (by repeat (first | exact Za5)) (Zaz rfl rfl rfl); (first | exact Za3 rfl); exact rfl))
       all_goals (first | (refine WPY_case 19 rfl (fun hb => ?_) (fun hb => ?_) <;> (repeat (first | replace hb := Zam hb | replace hb := Zan hb | replace hb := Zbr hb | replace hb := Zbs hb)) <;> (try (exfalso; first | (cases hb; done) | contradiction | omega))) | skip)
       all_goals (first | (refine Zbj 10 rfl (by decide +kernel) rfl (by repeat (first | exact Za5)) rfl rfl rfl rfl rfl ?_))
       all_goals (first | (refine Zbj 11 rfl (by decide +kernel) rfl (by repeat (first | exact Za5)) rfl rfl rfl rfl rfl ?_))
       all_goals (first | (refine Zbj 12 rfl (by decide +kernel) rfl (by repeat (first | exact Za5)) rfl rfl rfl rfl rfl ?_))
       all_goals (first | (refine Zbj 13 rfl (by decide +kernel) rfl (by repeat (first | exact Za5)) rfl rfl rfl rfl rfl ?_))
       all_goals (first | (refine Zbj 14 rfl (by decide +kernel) rfl (by repeat (first | exact Za5)) rfl rfl rfl rfl rfl ?_))
       all_goals (first | (refine Zbj 15 rfl (by decide +kernel) rfl (by repeat (first | exact Za5)) rfl rfl rfl rfl rfl ?_))
       all_goals (first | (refine Zbj 16 rfl (by decide +kernel) rfl (by repeat (first | exact Za5)) rfl rfl rfl rfl rfl ?_))
       all_goals (first | (refine Zbj 17 rfl (by decide +kernel) rfl (by repeat (first | exact Za5)) rfl rfl rfl rfl rfl ?_))
       all_goals (first | (refine Zbj 18 rfl (by decide +kernel) rfl (by repeat (first | exact Za5)) rfl rfl rfl rfl rfl ?_))
       all_goals (first | (refine Zbj 19 rfl (by decide +kernel) rfl (by repeat (first | exact Za5)) rfl rfl rfl rfl rfl ?_))
       all_goals ((apply Za2 20 rfl (by decide +kernel) rfl (by repeat (exact Za5)) (Zaz rfl rfl rfl); (exact Zas (b := false) rfl (fun e => by cases e) (fun _ => rfl)); exact rfl))
       all_goals ((apply Za2 21 rfl (by decide +kernel) rfl (by repeat (exact Za5)) Za0; (exact Zas (b := false) rfl (fun e => by cases e) (fun _ => rfl)); exact rfl))
       all_goals (refine Zb9 (by decide +kernel) ?_)
       all_goals ((repeat' (first | refine Za1 ?_ | refine Za6 ?_ | (apply Za9; (first | exact Za3 rfl | exact Za4 rfl | (apply Zah; exact Zbf rfl rfl)); exact rfl) | refine Zag ?_ | refine Zb8 rfl ?_)))
       all_goals (try (exfalso; first | contradiction | omega))
       all_goals exact ⟨1, ⟨by omega, l[0], hv2.2, fun e => by omega, fun j h e => (by obtain rfl : j = 0 := (by omega); rfl), hp4⟩, by omega, Zae (by repeat (first | exact Zai | refine Zad rfl ?_)) (List.Sublist.refl _)⟩
   | succ i =>
     have hil : i < l.length := by omega
     have hp3 := hp3 i hil rfl
     have hidx : (((i + 1 : Nat) : Int) - 1).toNat = i := by omega
     cases hv : inB l[i + 1] 0 p
     · rw [hv, Bool.false_and] at hp4
       rw [hp4]
       have hv2 := of_decide_eq_false hv
       have hw := rwithin15_any l[i + 1] 0 1099511627776
       (repeat' (first | (apply Zbh 4; refine Stop.out ?_) | refine Za8 ?_ | refine Za1 ?_ | refine Za6 ?_ | (apply Za9; (first | exact Za3 rfl | (apply Zah; exact Zau rfl rfl) | (apply Zax; exact Zb3 rfl rfl)); exact rfl) | refine Zaa ?_ | refine Zag ?_ | (refine Zac rfl (fun hb => ?_) (fun hb => ?_) <;> (repeat (first | replace hb := Zam hb | replace hb := Zan hb)) <;> (try (exfalso; omega)))))
       all_goals (try (exfalso; omega))
       refine ⟨?_⟩
       (refine Zbx 22 rfl ?_)
       all_goals ((apply Za2 0 rfl (by decide +kernel) rfl (by repeat (first | exact Za5)) Za0; (first | exact Za3 rfl); exact rfl))
       all_goals ((apply Za2 1 rfl (by decide +kernel) rfl (by repeat (first | exact Za5)) Za0; (first | exact Za3 rfl); exact rfl))
       all_goals ((apply Za2 2 rfl (by decide +kernel) rfl (by repeat (first | exact Za5)) Za0; (first | (apply Zak; first | exact Zar rfl rfl rfl)); exact rfl))
       all_goals ((apply Zb0 3 rfl (by decide +kernel) rfl (by decide +kernel) (by repeat (exact Za5)) Za0; ((apply Za7; exact Zb1 rfl rfl)); exact rfl))
       all_goals ((apply Zap 4; exact (by decide +kernel); exact rfl; exact Za0; exact (fun _ _ h => h); (apply Zao; (refine Zaw Tryz.func34 rfl hw rfl ?_; rintro _ _ ⟨rfl, rfl⟩))))
       all_goals ((apply Za2 5 rfl (by decide +kernel) rfl (by repeat (first | exact Za5)) Za0; (first | (apply g_un; first | exact Zbg rfl)); exact rfl))
       all_goals ((apply Za2 6 rfl (by decide +kernel) rfl (by repeat (first | exact Za5)) Za0; (first | exact Za3 rfl); exact rfl))
       all_goals (first | (refine WPY_case 16 rfl (fun hb => ?_) (fun hb => ?_) <;> (repeat (first | replace hb := Zam hb | replace hb := Zan hb | replace hb := Zbr hb | replace hb := Zbs hb)) <;> (try (exfalso; first | (cases hb; done) | contradiction | omega))) | skip)
       all_goals (first | (refine Zbj 7 rfl (by decide +kernel) rfl (by repeat (exact Za5)) rfl rfl rfl rfl rfl ?_) | (apply Za2 7 rfl (by decide +kernel) rfl (by repeat (exact Za5)) (Zaz rfl rfl rfl); (exact Za3 rfl); exact rfl))
       all_goals (first | (refine Zbj 8 rfl (by decide +kernel) rfl (by repeat (exact Za5)) rfl rfl rfl rfl rfl ?_) | (apply Za2 8 rfl (by decide +kernel) rfl (by repeat (exact Za5)) (Zaz rfl rfl rfl); ((apply Zah; exact Zcc rfl rfl)); exact rfl))
       all_goals (first | (refine Zbj 9 rfl (by decide +kernel) rfl (by repeat (exact Za5)) rfl rfl rfl rfl rfl ?_) | (apply Za2 9 rfl (by decide +kernel) rfl (by repeat (exact Za5)) (Zaz rfl rfl rfl); (exact Za3 rfl); exact rfl))
       all_goals (first | (refine WPY_case 19 rfl (fun hb => ?_) (fun hb => ?_) <;> (repeat (first | replace hb := Zam hb | replace hb := Zan hb | replace hb := Zbr hb | replace hb := Zbs hb)) <;> (try (exfalso; first | (cases hb; done) | contradiction | omega))) | skip)
       all_goals (first | (refine Zcn 10 rfl (by decide +kernel) rfl (by repeat (exact Za5)) rfl rfl rfl rfl ?_) | (apply Za2 10 rfl (by decide +kernel) rfl (by repeat (exact Za5)) (Zaz rfl rfl rfl); (exact Za3 rfl); exact rfl))
       all_goals (first | (refine Zcn 11 rfl (by decide +kernel) rfl (by repeat (exact Za5)) rfl rfl rfl rfl ?_) | (apply Za2 11 rfl (by decide +kernel) rfl (by repeat (exact Za5)) (Zaz rfl rfl rfl); (exact Za3 rfl); exact rfl))
       all_goals (first | (refine Zcn 12 rfl (by decide +kernel) rfl (by repeat (exact Za5)) rfl rfl rfl rfl ?_) | (apply Za2 12 rfl (by decide +kernel) rfl (by repeat (exact Za5)) (Zaz rfl rfl rfl); ((apply Zak; exact Zar rfl rfl rfl)); exact rfl))
       all_goals (first | (refine Zcn 13 rfl (by decide +kernel) rfl (by repeat (exact Za5)) rfl rfl rfl rfl ?_) | (apply Zb0 13 rfl (by decide +kernel) rfl (by decide +kernel) (by repeat (exact Za5)) (Zaz rfl rfl rfl); ((apply Za7; exact Zb1 rfl rfl)); exact rfl))
       all_goals (first | (refine Zcn 14 rfl (by decide +kernel) rfl (by repeat (exact Za5)) rfl rfl rfl rfl ?_) | (apply Za2 14 rfl (by decide +kernel) rfl (by repeat (exact Za5)) (Zaz rfl rfl rfl); (exact Za3 rfl); exact rfl))
       all_goals (first | (refine Zcn 15 rfl (by decide +kernel) rfl (by repeat (exact Za5)) rfl rfl rfl rfl ?_) | (apply Za2 15 rfl (by decide +kernel) rfl (by repeat (exact Za5)) (Zaz rfl rfl rfl); (exact Za3 rfl); exact rfl))
       all_goals (first | (refine Zcn 16 rfl (by decide +kernel) rfl (by repeat (exact Za5)) rfl rfl rfl rfl ?_) | (apply Za2 16 rfl (by decide +kernel) rfl (by repeat (exact Za5)) (Zaz rfl rfl rfl); ((apply Zah; exact WT_sub rfl rfl)); exact rfl))
       all_goals (first | (refine Zcn 17 rfl (by decide +kernel) rfl (by repeat (exact Za5)) rfl rfl rfl rfl ?_) | (apply Za2 17 rfl (by decide +kernel) rfl (by repeat (exact Za5)) (Zaz rfl rfl rfl); ((apply Zak; exact WT_indexz rfl rfl rfl)); exact rfl))
       all_goals (first | (refine Zcn 18 rfl (by decide +kernel) rfl (by repeat (exact Za5)) rfl rfl rfl rfl ?_) | (apply Zb0 18 rfl (by decide +kernel) rfl (by decide +kernel) (by repeat (exact Za5)) (Zaz rfl rfl rfl); ((apply Za7; exact Zb1 rfl rfl)); exact rfl))
       all_goals (first | (refine Zcn 19 rfl (by decide +kernel) rfl (by repeat (exact Za5)) rfl rfl rfl rfl ?_) | (apply Za2 19 rfl (by decide +kernel) rfl (by repeat (exact Za5)) (Zaz rfl rfl rfl); ((apply Zah; exact Zcc rfl rfl)); exact rfl))
       all_goals (first | (refine Zbj 20 rfl (by decide +kernel) rfl (by repeat (exact Za5)) rfl rfl rfl rfl rfl ?_) | (apply Za2 20 rfl (by decide +kernel) rfl (by repeat (exact Za5)) (Zaz rfl rfl rfl); (exact Zas (b := true) rfl (fun _ => rfl) (fun e => by cases e)); exact rfl))
       all_goals ((apply Za2 21 rfl (by decide +kernel) rfl (by repeat (exact Za5)) Za0; (first | exact Zas (b := true) rfl (fun _ => rfl) (fun e => by cases e) | exact Zas (b := false) rfl (fun e => by cases e) (fun _ => rfl)); exact rfl))
       all_goals (refine Zb9 (by decide +kernel) ?_)
       all_goals ((repeat' (first | refine Za8 ?_ | refine Za1 ?_ | refine Za6 ?_ | (apply Za9; (first | exact Za3 rfl | exact Za4 rfl | (apply Zah; exact Zbf rfl rfl)); exact rfl) | refine Zag ?_ | refine Zaq ?_ | refine Zb4 rfl ?_ | (refine Zac rfl (fun hb => ?_) (fun hb => ?_) <;> (repeat (first | replace hb := Zam hb | replace hb := Zan hb)) <;> (try (exfalso; fail))))))
       all_goals (try simp only [inB, hidx, decide_eq_false_iff_not] at *)
       all_goals (try (exfalso; first | contradiction | omega))
       all_goals exact ⟨.inr rfl, ret1 rfl (.tmp rfl) (List.nil_sublist _) ⟨rfl, rfl⟩⟩
     · rw [hv, Bool.true_and] at hp4
       have hv2 := of_decide_eq_true hv
       have hw := rwithin15_any l[i + 1] 0 1099511627776
       (repeat' (first | (apply Zbh 4; refine Stop.out ?_) | refine Za8 ?_ | refine Za1 ?_ | refine Za6 ?_ | (apply Za9; (first | exact Za3 rfl | (apply Zah; exact Zau rfl rfl) | (apply Zax; exact Zb3 rfl rfl)); exact rfl) | refine Zaa ?_ | refine Zag ?_ | (refine Zac rfl (fun hb => ?_) (fun hb => ?_) <;> (repeat (first | replace hb := Zam hb | replace hb := Zan hb)) <;> (try (exfalso; omega)))))
       all_goals (try (exfalso; omega))
       refine ⟨?_⟩
       (refine Zbx 22 rfl ?_)
       all_goals ((apply Za2 0 rfl (by decide +kernel) rfl (by repeat (first | exact Za5)) Za0; (first | exact Za3 rfl); exact rfl))
       all_goals ((apply Za2 1 rfl (by decide +kernel) rfl (by repeat (first | exact Za5)) Za0; (first | exact Za3 rfl); exact rfl))
       all_goals ((apply Za2 2 rfl (by decide +kernel) rfl (by repeat (first | exact Za5)) Za0; (first | (apply Zak; first | exact Zar rfl rfl rfl)); exact rfl))
       all_goals ((apply Zb0 3 rfl (by decide +kernel) rfl (by decide +kernel) (by repeat (exact Za5)) Za0; ((apply Za7; exact Zb1 rfl rfl)); exact rfl))
       all_goals ((apply Zap 4; exact (by decide +kernel); exact rfl; exact Za0; exact (fun _ _ h => h); (apply Zao; (refine Zaw Tryz.func34 rfl hw rfl ?_; rintro _ _ ⟨rfl, rfl⟩))))
       all_goals ((apply Za2 5 rfl (by decide +kernel) rfl (by repeat (first | exact Za5)) Za0; (first | (apply g_un; first | exact Zbg rfl)); exact rfl))
       all_goals ((apply Za2 6 rfl (by decide +kernel) rfl (by repeat (first | exact Za5)) Za0; (first | exact Za3 rfl); exact rfl))
       all_goals (first | (refine WPY_case 16 rfl (fun hb => ?_) (fun hb => ?_) <;> (repeat (first | replace hb := Zam hb | replace hb := Zan hb | replace hb := Zbr hb | replace hb := Zbs hb)) <;> (try (exfalso; first | (cases hb; done) | contradiction | omega))) | skip)
       all_goals (first | (apply Za2 7 rfl (by decide +kernel) rfl (by repeat (first | exact Za5)) (Zaz rfl rfl rfl); (first | exact Za3 rfl); exact rfl))
       all_goals (first | (apply Za2 8 rfl (by decide +kernel) rfl (by repeat (first | exact Za5)) (Zaz rfl rfl rfl); (first | (apply Zah; first | exact Zcc rfl rfl)); exact rfl))
       all_goals (first | (apply Za2 9 rfl (by decide +kernel) rfl (by repeat (first | exact Za5)) (Zaz rfl rfl rfl); (first | exact Za3 rfl); exact rfl))
       all_goals (first | (refine WPY_case 19 rfl (fun hb => ?_) (fun hb => ?_) <;> (repeat (first | replace hb := Zam hb | replace hb := Zan hb | replace hb := Zbr hb | replace hb := Zbs hb)) <;> (try (exfalso; first | (cases hb; done) | contradiction | omega))) | skip)
       all_goals (first | (apply Za2 10 rfl (by decide +kernel) rfl (by repeat (first | exact Za5)) (Zaz rfl rfl rfl); (first | exact Za3 rfl); exact rfl))
       all_goals (first | (apply Za2 11 rfl (by decide +kernel) rfl (by repeat (first | exact Za5)) (Zaz rfl rfl rfl); (first | exact Za3 rfl); exact rfl))
       all_goals ((apply Za2 12 rfl (by decide +kernel) rfl (by repeat (exact Za5)) (Zaz rfl rfl rfl); ((apply Zak; exact Zar rfl rfl rfl)); exact rfl))
       all_goals ((apply Zb0 13 rfl (by decide +kernel) rfl (by decide +kernel) (by repeat (exact Za5)) (Zaz rfl rfl rfl); ((apply Za7; exact Zb1 rfl rfl)); exact rfl))
       all_goals (first | (apply Za2 14 rfl (by decide +kernel) rfl (by repeat (first | exact Za5)) (Zaz rfl rfl rfl); (first | exact Za3 rfl); exact rfl))
       all_goals (first | (apply Za2 15 rfl (by decide +kernel) rfl (by repeat (first | exact Za5)) (Zaz rfl rfl rfl); (first | exact Za3 rfl); exact rfl))
       all_goals ((apply Za2 16 rfl (by decide +kernel) rfl (by repeat (exact Za5)) (Zaz rfl rfl rfl); ((apply Zah; exact WT_sub rfl rfl)); exact rfl))
       all_goals ((apply Za2 17 rfl (by decide +kernel) rfl (by repeat (exact Za5)) (Zaz rfl rfl rfl); ((apply Zak; exact WT_indexz rfl rfl rfl)); exact rfl))
       all_goals ((apply Zb0 18 rfl (by decide +kernel) rfl (by decide +kernel) (by repeat (exact Za5)) (Zaz rfl rfl rfl); ((apply Za7; exact Zb1 rfl rfl)); exact rfl))
       all_goals ((apply Za2 19 rfl (by decide +kernel) rfl (by repeat (exact Za5)) (Zaz rfl rfl rfl); ((apply Zah; exact Zcc rfl rfl)); exact rfl))
       all_goals ((apply Za2 20 rfl (by decide +kernel) rfl (by repeat (exact Za5)) (Zaz rfl rfl rfl); (exact Zas (b := true) rfl (fun _ => rfl) (fun e => by cases e)); exact rfl))
       all_goals ((apply Za2 21 rfl (by decide +kernel) rfl (by repeat (exact Za5)) Za0; (exact Zas (b := false) rfl (fun e => by cases e) (fun _ => rfl)); exact rfl))
       all_goals (refine Zb9 (by decide +kernel) ?_)
       all_goals ((repeat' (first | refine Za8 ?_ | refine Za1 ?_ | refine Za6 ?_ | (apply Za9; (first | exact Za3 rfl | exact Za4 rfl | (apply Zah; exact Zbf rfl rfl)); exact rfl) | refine Zag ?_ | refine Zaq ?_ | (refine Zac rfl (fun hb => ?_) (fun hb => ?_) <;> (repeat (first | replace hb := Zam hb | replace hb := Zan hb)) <;> (try (exfalso; fail))))))
       all_goals (try simp only [inB, hidx, decide_eq_true_eq] at *)
       all_goals (try (exfalso; first | contradiction | omega))
       all_goals exact ⟨i + 2, ⟨by omega, l[i + 1], by omega, fun e => by omega, fun j h e => (by obtain rfl : j = i + 1 := (by omega); rfl), hp4⟩, by omega, Zae (by repeat (first | exact Zai | refine Zad rfl ?_)) (List.Sublist.refl _)⟩
 · rw [List.drop_eq_nil_of_le (by omega), fallF] at hp4
   rw [hp4]
   (repeat' (first | refine Za8 ?_ | refine Za1 ?_ | refine Za6 ?_ | (apply Za9; (first | exact Za3 rfl | exact Za4 rfl | (apply Zah; exact Zau rfl rfl) | (apply Zax; exact Zb3 rfl rfl)); exact rfl) | refine Zaq ?_ | refine Zbk ?_ | (refine Zac rfl (fun hb => ?_) (fun hb => ?_) <;> (repeat (first | replace hb := Zam hb | replace hb := Zan hb)) <;> (try (exfalso; omega)))))
   all_goals (try (exfalso; omega))
   exact ⟨.inr rfl, ret1 rfl (.tmp rfl) (List.nil_sublist _) ⟨rfl, rfl⟩⟩
end Go.Proofs.YthldagplhklbnaaGreatDoor
namespace Go.Fr
open Go.RowKit Go.Kx
theorem im_zeroX : Im (agg [ex (.int .i64 0), ex (.string .empty), ex (.int .i64 0), ex (.int .i64 0), ex (.slice none 0 0)]) (agg (exV 1 Ex.zero)) := Ims.agg (.cons (.refl _) (.cons (.refl _) (.cons (.refl _) (.cons (.refl _) (.cons .nil .nil)))))
end Go.Fr
namespace Go.Proofs.YthldagplhklbnaaGreatDoor
open Go Go.RowKit Go.Kx Go.Fr
set_option maxHeartbeats 1000000 in
set_option maxRecDepth 100000 in
theorem round15_any (kk : Nat) (r : RulesD) (y : RoundD) (ht : ∀ c ∈ r.crits, 0 ≤ c.trim) : FnC Tryz.prog 37 [rul kk r, agg (roundV kk y)] [] (fun p loc => p = exB (y.fine r.crits) ∧ loc = []) := by
 have hcall := rexpr15_any kk y.score
 have hsex := FnC_args (sameExpr_any kk 1 y.score Ex.zero) (args := [agg (exV kk y.score), agg [ex (.int .i64 0), ex (.string .empty), ex (.int .i64 0), ex (.int .i64 0), ex (.slice none 0 0)]]) (.cons (.refl _) (.cons im_zeroX .nil))
 unfold rul
 refine Zbe (i := 0) rfl (Zca (i := 1) (p := isl eCrit r.crits) rfl Zbl) fun hcy => ?_
 obtain ⟨hcy, -⟩ := hcy
 simp only [maxLen] at hcy
 have hfn : y.fine r.crits = (decide (1 ≤ y.panel ∧ y.panel ≤ 256 ∧ 1 ≤ y.quota ∧ y.quota ≤ 4096 ∧ 1 ≤ y.cut ∧ y.cut ≤ 3) && (r.crits.all (fun c => decide (2 * c.trim < y.panel)) && (if y.places then decide (y.score = Ex.zero) else y.score.fine))) := rfl
 rw [hfn]
 clear hfn
 refine Zb7 Tryz.func37 rfl Tryz.ntmps37 rfl fun w0 F0 out => ?_
 (repeat' (first | (apply Zbh 1; refine Stop.out ?_) | refine Za8 ?_ | refine Za1 ?_ | refine Za6 ?_ | (apply Za9; (exact Za4 rfl); exact rfl) | (apply Zaj; exact rfl; (apply Zc9; refine Zbz rfl ?_; intro _))))
 refine ⟨Zbn (Zch (k := 0) (t := 3) rfl rfl) ?_⟩
 refine Zbn (Zch (k := 0) (t := 2) rfl rfl) ?_
 (repeat' (first | refine Za1 ?_ | refine Za6 ?_ | (apply Za9; (first | exact Za4 rfl); exact rfl) | refine Zaa ?_))
 refine Zbv (fun i : Nat => ([(2, fp (rulesV kk r)), (3, fp (roundV kk y)), (5, exI .i64 (i : Int))], [])) (fun i => i ≤ r.crits.length ∧ (r.crits.take i).all (fun c => decide (2 * c.trim < y.panel)) = true) (fun i => r.crits.length - i) 0 ?_ ⟨Nat.zero_le _, rfl⟩ fun i hi => ?_
 · exact Zae (by repeat (first | exact Zai | refine Zad rfl ?_)) (List.Sublist.refl _)
 obtain ⟨hi, hpre⟩ := hi
 by_cases hlt : i < r.crits.length
 · have htr := ht _ (List.getElem_mem hlt)
   by_cases hv : r.crits[i].trim ≤ 256 ∧ 2 * r.crits[i].trim < y.panel
   · obtain ⟨hv1, hv2⟩ := hv
     have hok := all_take (P := fun c : Crit => decide (2 * c.trim < y.panel)) hlt hpre (decide_eq_true hv2)
     clear hpre
     (repeat' (first | (apply Zbh 4; refine Stop.out ?_) | refine Za8 ?_ | refine Za1 ?_ | refine Za6 ?_ | (apply Za9; (first | exact Za3 rfl | (apply Za7; exact Zb1 rfl rfl) | (apply Zat; exact Zay rfl rfl rfl) | (apply Zah; exact Zau rfl rfl) | (apply Zax; exact Zb3 rfl rfl)); exact rfl) | refine Zaa ?_ | refine Zag ?_ | (refine Zac rfl (fun hb => ?_) (fun hb => ?_) <;> (repeat (first | replace hb := Zam hb | replace hb := Zan hb)) <;> (try (exfalso; omega)))))
     all_goals (try (exfalso; omega))
     refine ⟨?_⟩
     (refine Zbx 19 rfl ?_)
     all_goals ((apply Za2 0 rfl (by decide +kernel) rfl (by repeat (first | exact Za5)) Za0; (first | (apply Zat; first | exact Zay rfl rfl rfl)); exact rfl))
     all_goals ((apply Zb0 1 rfl (by decide +kernel) rfl (by decide +kernel) (by repeat (first | exact Za5)) Za0; (first | (apply Za7; first | exact Zb1 rfl rfl)); exact rfl))
     all_goals ((apply Za2 2 rfl (by decide +kernel) rfl (by repeat (first | exact Za5)) Za0; (first | exact Za3 rfl); exact rfl))
     all_goals ((apply Za2 3 rfl (by decide +kernel) rfl (by repeat (first | exact Za5)) Za0; (first | (apply Zak; first | exact Zar rfl rfl rfl)); exact rfl))
     all_goals ((apply Za2 4 rfl (by decide +kernel) rfl (by repeat (first | exact Za5)) Za0; (first | (apply Zat; first | exact Zay rfl rfl rfl)); exact rfl))
     all_goals ((apply Zb0 5 rfl (by decide +kernel) rfl (by decide +kernel) (by repeat (first | exact Za5)) Za0; (first | (apply Za7; first | exact Zb1 rfl rfl)); exact rfl))
     all_goals ((apply Za2 6 rfl (by decide +kernel) rfl (by repeat (first | exact Za5)) Za0; (first | (apply Zah; first | exact Zcc rfl rfl)); exact rfl))
     all_goals ((apply Za2 7 rfl (by decide +kernel) rfl (by repeat (first | exact Za5)) Za0; (first | exact Za3 rfl); exact rfl))
     all_goals (first | (refine WPY_case 20 rfl (fun hb => ?_) (fun hb => ?_) <;> (repeat (first | replace hb := Zam hb | replace hb := Zan hb | replace hb := Zbr hb | replace hb := Zbs hb)) <;> (try (exfalso; first | (cases hb; done) | contradiction | omega))) | skip)
     all_goals ((apply Za2 8 rfl (by decide +kernel) rfl (by repeat (exact Za5)) (Zaz rfl rfl rfl); ((apply Zat; exact Zay rfl rfl rfl)); exact rfl))
     all_goals ((apply Zb0 9 rfl (by decide +kernel) rfl (by decide +kernel) (by repeat (exact Za5)) (Zaz rfl rfl rfl); ((apply Za7; exact Zb1 rfl rfl)); exact rfl))
     all_goals ((apply Za2 10 rfl (by decide +kernel) rfl (by repeat (exact Za5)) (Zaz rfl rfl rfl); ((apply Zat; exact Zay rfl rfl rfl)); exact rfl))
     all_goals ((apply Zb0 11 rfl (by decide +kernel) rfl (by decide +kernel) (by repeat (exact Za5)) (Zaz rfl rfl rfl); ((apply Za7; exact Zb1 rfl rfl)); exact rfl))
     all_goals (first | (apply Za2 12 rfl (by decide +kernel) rfl (by repeat (first | exact Za5)) (Zaz rfl rfl rfl); (first | exact Za3 rfl); exact rfl))
     all_goals ((apply Za2 13 rfl (by decide +kernel) rfl (by repeat (exact Za5)) (Zaz rfl rfl rfl); ((apply Zak; exact Zar rfl rfl rfl)); exact rfl))
     all_goals ((apply Za2 14 rfl (by decide +kernel) rfl (by repeat (exact Za5)) (Zaz rfl rfl rfl); ((apply Zat; exact Zay rfl rfl rfl)); exact rfl))
     all_goals ((apply Zb0 15 rfl (by decide +kernel) rfl (by decide +kernel) (by repeat (exact Za5)) (Zaz rfl rfl rfl); ((apply Za7; exact Zb1 rfl rfl)); exact rfl))
     all_goals (first | (apply Za2 16 rfl (by decide +kernel) rfl (by repeat (first | exact Za5)) (Zaz rfl rfl rfl); (first | (apply Zah; first | exact WT_mul rfl rfl)); exact rfl))
     all_goals (first | (apply Za2 17 rfl (by decide +kernel) rfl (by repeat (first | exact Za5)) (Zaz rfl rfl rfl); (first | (apply Zah; first | exact WT_leq rfl rfl)); exact rfl))
     all_goals ((apply Za2 18 rfl (by decide +kernel) rfl (by repeat (exact Za5)) Za0; (exact Zas (b := false) rfl (fun e => by cases e) (fun _ => rfl)); exact rfl))
     all_goals (refine Zb9 (by decide +kernel) ?_)
     all_goals ((repeat' (first | refine Za1 ?_ | refine Za6 ?_ | (apply Za9; (first | exact Za3 rfl | exact Za4 rfl | (apply Zah; exact Zbf rfl rfl)); exact rfl) | refine Zag ?_ | (refine Zac rfl (fun hb => ?_) (fun hb => ?_) <;> (repeat (first | replace hb := Zam hb | replace hb := Zan hb)) <;> (try (exfalso; omega))))))
     all_goals (try (exfalso; first | contradiction | omega))
     all_goals exact ⟨i + 1, ⟨by omega, hok⟩, by omega, Zae (by repeat (first | exact Zai | refine Zad rfl ?_)) (List.Sublist.refl _)⟩
   · have hno : (decide (1 ≤ y.panel ∧ y.panel ≤ 256 ∧ 1 ≤ y.quota ∧ y.quota ≤ 4096 ∧ 1 ≤ y.cut ∧ y.cut ≤ 3) && (r.crits.all (fun c => decide (2 * c.trim < y.panel)) && (if y.places then decide (y.score = Ex.zero) else y.score.fine))) = false := by
       by_cases h2 : 2 * r.crits[i].trim < y.panel
       · rw [decide_eq_false (by omega)]; rfl
       · rw [all_not (P := fun c : Crit => decide (2 * c.trim < y.panel)) hlt (decide_eq_false h2)]; simp
     rw [hno]
     clear hpre hno
     (repeat' (first | (apply Zbh 4; refine Stop.out ?_) | refine Za8 ?_ | refine Za1 ?_ | refine Za6 ?_ | (apply Za9; (first | exact Za3 rfl | (apply Za7; exact Zb1 rfl rfl) | (apply Zat; exact Zay rfl rfl rfl) | (apply Zah; exact Zau rfl rfl) | (apply Zax; exact Zb3 rfl rfl)); exact rfl) | refine Zaa ?_ | refine Zag ?_ | (refine Zac rfl (fun hb => ?_) (fun hb => ?_) <;> (repeat (first | replace hb := Zam hb | replace hb := Zan hb)) <;> (try (exfalso; omega)))))
     all_goals (try (exfalso; omega))
     refine ⟨?_⟩
     (refine Zbx 19 rfl ?_)
     all_goals ((apply Za2 0 rfl (by decide +kernel) rfl (by repeat (first | exact Za5)) Za0; (first | (apply Zat; first | exact Zay rfl rfl rfl)); exact rfl))
     all_goals ((apply Zb0 1 rfl (by decide +kernel) rfl (by decide +kernel) (by repeat (first | exact Za5)) Za0; (first | (apply Za7; first | exact Zb1 rfl rfl)); exact rfl))
     all_goals ((apply Za2 2 rfl (by decide +kernel) rfl (by repeat (first | exact Za5)) Za0; (first | exact Za3 rfl); exact rfl))
     all_goals ((apply Za2 3 rfl (by decide +kernel) rfl (by repeat (first | exact Za5)) Za0; (first | (apply Zak; first | exact Zar rfl rfl rfl)); exact rfl))
     all_goals ((apply Za2 4 rfl (by decide +kernel) rfl (by repeat (first | exact Za5)) Za0; (first | (apply Zat; first | exact Zay rfl rfl rfl)); exact rfl))
     all_goals ((apply Zb0 5 rfl (by decide +kernel) rfl (by decide +kernel) (by repeat (first | exact Za5)) Za0; (first | (apply Za7; first | exact Zb1 rfl rfl)); exact rfl))
     all_goals ((apply Za2 6 rfl (by decide +kernel) rfl (by repeat (first | exact Za5)) Za0; (first | (apply Zah; first | exact Zcc rfl rfl)); exact rfl))
     all_goals ((apply Za2 7 rfl (by decide +kernel) rfl (by repeat (first | exact Za5)) Za0; (first | exact Za3 rfl); exact rfl))
     all_goals (first | (refine WPY_case 20 rfl (fun hb => ?_) (fun hb => ?_) <;> (repeat (first | replace hb := Zam hb | replace hb := Zan hb | replace hb := Zbr hb | replace hb := Zbs hb)) <;> (try (exfalso; first | (cases hb; done) | contradiction | omega))) | skip)
     all_goals (first | (refine Zbj 8 rfl (by decide +kernel) rfl (by repeat (exact Za5)) rfl rfl rfl rfl rfl ?_) | (apply Za2 8 rfl (by decide +kernel) rfl (by repeat (exact Za5)) (Zaz rfl rfl rfl); ((apply Zat; exact Zay rfl rfl rfl)); exact rfl))
     all_goals (first | (refine Zbj 9 rfl (by decide +kernel) rfl (by repeat (exact Za5)) rfl rfl rfl rfl rfl ?_) | (apply Zb0 9 rfl (by decide +kernel) rfl (by decide +kernel) (by repeat (exact Za5)) (Zaz rfl rfl rfl); ((apply Za7; exact Zb1 rfl rfl)); exact rfl))
     all_goals (first | (refine Zbj 10 rfl (by decide +kernel) rfl (by repeat (exact Za5)) rfl rfl rfl rfl rfl ?_) | (apply Za2 10 rfl (by decide +kernel) rfl (by repeat (exact Za5)) (Zaz rfl rfl rfl); ((apply Zat; exact Zay rfl rfl rfl)); exact rfl))
     all_goals (first | (refine Zbj 11 rfl (by decide +kernel) rfl (by repeat (exact Za5)) rfl rfl rfl rfl rfl ?_) | (apply Zb0 11 rfl (by decide +kernel) rfl (by decide +kernel) (by repeat (exact Za5)) (Zaz rfl rfl rfl); ((apply Za7; exact Zb1 rfl rfl)); exact rfl))
     all_goals (first | (refine Zbj 12 rfl (by decide +kernel) rfl (by repeat (exact Za5)) rfl rfl rfl rfl rfl ?_) | (apply Za2 12 rfl (by decide +kernel) rfl (by repeat (exact Za5)) (Zaz rfl rfl rfl); (exact Za3 rfl); exact rfl))
     all_goals (first | (refine Zbj 13 rfl (by decide +kernel) rfl (by repeat (exact Za5)) rfl rfl rfl rfl rfl ?_) | (apply Za2 13 rfl (by decide +kernel) rfl (by repeat (exact Za5)) (Zaz rfl rfl rfl); ((apply Zak; exact Zar rfl rfl rfl)); exact rfl))
     all_goals (first | (refine Zbj 14 rfl (by decide +kernel) rfl (by repeat (exact Za5)) rfl rfl rfl rfl rfl ?_) | (apply Za2 14 rfl (by decide +kernel) rfl (by repeat (exact Za5)) (Zaz rfl rfl rfl); ((apply Zat; exact Zay rfl rfl rfl)); exact rfl))
     all_goals (first | (refine Zbj 15 rfl (by decide +kernel) rfl (by repeat (exact Za5)) rfl rfl rfl rfl rfl ?_) | (apply Zb0 15 rfl (by decide +kernel) rfl (by decide +kernel) (by repeat (exact Za5)) (Zaz rfl rfl rfl); ((apply Za7; exact Zb1 rfl rfl)); exact rfl))
     all_goals (first | (refine Zbj 16 rfl (by decide +kernel) rfl (by repeat (exact Za5)) rfl rfl rfl rfl rfl ?_) | (apply Za2 16 rfl (by decide +kernel) rfl (by repeat (exact Za5)) (Zaz rfl rfl rfl); ((apply Zah; exact WT_mul rfl rfl)); exact rfl))
     all_goals (first | (refine Zbj 17 rfl (by decide +kernel) rfl (by repeat (exact Za5)) rfl rfl rfl rfl rfl ?_) | (apply Za2 17 rfl (by decide +kernel) rfl (by repeat (exact Za5)) (Zaz rfl rfl rfl); ((apply Zah; exact WT_leq rfl rfl)); exact rfl))
     all_goals ((apply Za2 18 rfl (by decide +kernel) rfl (by repeat (exact Za5)) Za0; (first | exact Zas (b := true) rfl (fun _ => rfl) (fun e => by cases e) | exact Zas (b := false) rfl (fun e => by cases e) (fun _ => rfl)); exact rfl))
     all_goals (refine Zb9 (by decide +kernel) ?_)
     all_goals ((repeat' (first | refine Za8 ?_ | refine Za1 ?_ | refine Za6 ?_ | (apply Za9; (exact Za4 rfl); exact rfl) | refine Zaq ?_ | refine Zb4 rfl ?_ | (refine Zac rfl (fun hb => ?_) (fun hb => ?_) <;> (repeat (first | replace hb := Zam hb | replace hb := Zan hb)) <;> (try (exfalso; omega))))))
     all_goals (try (exfalso; first | contradiction | omega))
     all_goals exact ⟨.inr rfl, ret1 rfl (.tmp rfl) (List.nil_sublist _) ⟨rfl, rfl⟩⟩
 · rw [show i = r.crits.length by omega, List.take_length] at hpre
   rw [hpre, Bool.true_and]
   unfold roundV
   (repeat' (first | refine Za8 ?_ | refine Za1 ?_ | refine Za6 ?_ | (apply Za9; (first | exact Za3 rfl | exact Za4 rfl | exact Zas (b := true) rfl (fun _ => rfl) (fun e => by cases e) | exact Zas (b := false) rfl (fun e => by cases e) (fun _ => rfl) | (apply Za7; first | exact Zb1 rfl rfl | exact WT_loadfa2 rfl rfl) | (apply Zat; exact Zay rfl rfl rfl) | (apply Zah; exact Zau rfl rfl) | (apply Zax; exact Zb3 rfl rfl) | (apply g_un; exact Zbg rfl) | (apply g_build; exact WT_build2 rfl rfl (by repeat (exact PartsO.nil)))); exact rfl) | (refine Zbq rfl rfl rfl rfl rfl ?_) | (apply Zbt; exact rfl; exact rfl; exact rfl; (first | (apply Za7; exact Zb1 rfl rfl) | (apply Zat; exact Zay rfl rfl rfl) | (apply g_un; exact Zbg rfl)); exact rfl) | refine Zag ?_ | refine Zaq ?_ | refine Zbk ?_ | refine Zb4 rfl ?_ | (apply Zaj; exact rfl; (apply Zao; first | (refine Zaw Tryz.func34 rfl (rwithin15_any _ _ _) rfl ?_; rintro _ _ ⟨rfl, rfl⟩) | (refine Zaw Tryz.func75 rfl hcall rfl ?_; rintro _ _ ⟨rfl, rfl⟩) | (refine Zaw Tryz.func74 rfl hsex rfl ?_; rintro _ _ ⟨rfl, rfl⟩))) | (apply Zc8; exact rfl; exact rfl; exact rfl; exact rfl; (apply Zao; (refine Zaw Tryz.func34 rfl (rwithin15_any _ _ _) rfl ?_; rintro _ _ ⟨rfl, rfl⟩))) | (refine Zbm rfl rfl (fun hb => ?_) (fun hb => ?_) <;> (repeat (first | replace hb := Zam hb | replace hb := Zan hb | replace hb := Zbr hb | replace hb := Zbs hb)) <;> (try (exfalso; fail))) | (refine Zac rfl (fun hb => ?_) (fun hb => ?_) <;> (repeat (first | replace hb := Zam hb | replace hb := Zan hb | replace hb := Zbr hb | replace hb := Zbs hb)) <;> (try (exfalso; omega)))))
   · rw [decide_eq_false (by omega)]; exact ⟨.inr rfl, ret1 rfl (.tmp rfl) (List.nil_sublist _) ⟨rfl, rfl⟩⟩
   · rw [decide_eq_false (by omega)]; exact ⟨.inr rfl, ret1 rfl (.tmp rfl) (List.nil_sublist _) ⟨rfl, rfl⟩⟩
   · rw [decide_eq_false (by omega)]; exact ⟨.inr rfl, ret1 rfl (.tmp rfl) (List.nil_sublist _) ⟨rfl, rfl⟩⟩
   · rw [decide_eq_true (by omega), Bool.true_and, if_pos hb]; exact ⟨.inr rfl, ret1 rfl (.tmp rfl) (List.nil_sublist _) ⟨rfl, rfl⟩⟩
   · rw [decide_eq_true (by omega), Bool.true_and, if_neg (by simp [hb])]; exact ⟨.inr rfl, ret1 rfl (.tmp rfl) (List.nil_sublist _) ⟨rfl, rfl⟩⟩
set_option maxHeartbeats 4000000 in
set_option maxRecDepth 100000 in
theorem formed15_any (kk : Nat) (r : RulesD) (hf8 : ∀ t ∈ r.ties, t.keys.length ≤ 40) : FnC Tryz.prog 15 [rul kk r] [] (fun p loc => p = exB r.fine ∧ loc = []) := by
 have hrnd := fun y ht => round15_any kk r y ht
 unfold rul at *
 refine Zbe (i := 0) rfl (Zca (i := 1) (p := isl eCrit r.crits) rfl Zbl) fun hcy => ?_
 refine Zbe (i := 0) rfl (Zca (i := 4) (p := isl eTie r.ties) rfl Zbl) fun hty => ?_
 refine Zbe (i := 0) rfl (Zca (i := 5) (p := isl (eRound kk) r.rounds) rfl Zbl) fun hry => ?_
 obtain ⟨hcy, -⟩ := hcy
 obtain ⟨hty, -⟩ := hty
 obtain ⟨hry, -⟩ := hry
 simp only [maxLen] at hcy hty hry
 have hfn : r.fine = (decide (0 < r.crits.length ∧ 0 < r.rounds.length) && (r.crits.all Crit.fine && (r.bonus.all ItemD.fine && (r.malus.all ItemD.fine && (fallF 1099511627776 r.prizes && (fallF 1099511627776 r.points && (decide (0 ≤ r.best ∧ r.best ≤ 64 ∧ (r.best = 0 ↔ r.points.length = 0)) && (r.ties.all TieD.fine && r.rounds.all (RoundD.fine r.crits))))))))) := rfl
 rw [hfn]
 clear hfn
 refine Zb7 Tryz.func15 rfl Tryz.ntmps15 rfl fun w0 F0 out => ?_
 (repeat' (first | (apply cuts_at 1; refine Stop.out ?_) | refine Za8 ?_ | refine Za1 ?_ | refine Za6 ?_ | (apply Za9; (exact Za4 rfl); exact rfl) | (apply Zaj; exact rfl; (apply Zc9; refine Zbz rfl ?_; intro _))))
 refine ⟨Zbn (Zch (k := 0) (t := 1) rfl rfl) ?_⟩
 refine WP_cut (fun _ : Unit => ([(1, fp (rulesV kk r))], [])) (fun _ => 0 < r.crits.length ∧ 0 < r.rounds.length ∧ r.bonus.all ItemD.fine = true ∧ r.malus.all ItemD.fine = true ∧ fallF 1099511627776 r.prizes = true ∧ fallF 1099511627776 r.points = true ∧ 0 ≤ r.best ∧ r.best ≤ 64 ∧ (r.best = 0 ↔ r.points.length = 0)) ?_ fun _ hA => ?_
 · (repeat' (first | refine Za8 ?_ | refine Za1 ?_ | refine Za6 ?_ | (apply Za9; (first | exact Za3 rfl | exact Za4 rfl | exact Zas (b := true) rfl (fun _ => rfl) (fun e => by cases e) | exact Zas (b := false) rfl (fun e => by cases e) (fun _ => rfl) | (apply Za7; exact Zb1 rfl rfl) | (apply Zat; exact Zay rfl rfl rfl) | (apply Zah; exact Zcd rfl rfl) | (apply Zax; exact Zb3 rfl rfl)); exact rfl) | (refine Zbq rfl rfl rfl rfl rfl ?_) | (apply Zbt; exact rfl; exact rfl; exact rfl; (first | (apply Za7; exact Zb1 rfl rfl) | (apply Zat; exact Zay rfl rfl rfl) | (apply Zah; first | exact Zcd rfl rfl | exact WT_bne rfl rfl rfl) | (apply Zax; exact Zb3 rfl rfl) | (apply g_un; exact Zbg rfl)); exact rfl) | refine Zag ?_ | refine Zaq ?_ | refine Zb4 rfl ?_ | (apply Zc8; exact rfl; exact rfl; exact rfl; exact rfl; (apply Zao; first | (refine Zaw Tryz.func34 rfl (rwithin15_any _ _ _) rfl ?_; rintro _ _ ⟨rfl, rfl⟩) | (refine Zaw Tryz.func32 rfl (items15_any _) rfl ?_; rintro _ _ ⟨rfl, rfl⟩) | (refine Zaw Tryz.func33 rfl (amounts15_any _) rfl ?_; rintro _ _ ⟨rfl, rfl⟩))) | (refine Zbm rfl rfl (fun hb => ?_) (fun hb => ?_) <;> (repeat (first | replace hb := Zam hb | replace hb := Zan hb | replace hb := Zbr hb | replace hb := Zbs hb)) <;> (try (exfalso; fail))) | (refine Zac rfl (fun hb => ?_) (fun hb => ?_) <;> (repeat (first | replace hb := Zam hb | replace hb := Zan hb | replace hb := Zbr hb | replace hb := Zbs hb)) <;> (try (exfalso; fail)))))
   · refine ⟨.inr rfl, ret1 rfl (.tmp rfl) (List.nil_sublist _) ⟨congrArg exB (Eq.symm ?_), rfl⟩⟩
     rw [decide_eq_false (by omega)]; rfl
   · refine ⟨.inr rfl, ret1 rfl (.tmp rfl) (List.nil_sublist _) ⟨congrArg exB (Eq.symm ?_), rfl⟩⟩
     rw [decide_eq_false (by omega)]; rfl
   · refine ⟨.inr rfl, ret1 rfl (.tmp rfl) (List.nil_sublist _) ⟨congrArg exB (Eq.symm ?_), rfl⟩⟩
     simp [hb]
   · refine ⟨.inr rfl, ret1 rfl (.tmp rfl) (List.nil_sublist _) ⟨congrArg exB (Eq.symm ?_), rfl⟩⟩
     simp [hb]
   · refine ⟨.inr rfl, ret1 rfl (.tmp rfl) (List.nil_sublist _) ⟨congrArg exB (Eq.symm ?_), rfl⟩⟩
     simp [hb]
   · refine ⟨.inr rfl, ret1 rfl (.tmp rfl) (List.nil_sublist _) ⟨congrArg exB (Eq.symm ?_), rfl⟩⟩
     simp [hb]
   · refine ⟨.inr rfl, ret1 rfl (.tmp rfl) (List.nil_sublist _) ⟨congrArg exB (Eq.symm ?_), rfl⟩⟩
     rw [decide_eq_false (p := 0 ≤ r.best ∧ r.best ≤ 64 ∧ (r.best = 0 ↔ r.points.length = 0)) (by omega)]; simp
   · refine ⟨.inr rfl, ret1 rfl (.tmp rfl) (List.nil_sublist _) ⟨congrArg exB (Eq.symm ?_), rfl⟩⟩
     rw [decide_eq_decide] at hb
     rw [decide_eq_false (p := 0 ≤ r.best ∧ r.best ≤ 64 ∧ (r.best = 0 ↔ r.points.length = 0)) (by omega)]; simp
   · rw [decide_eq_decide] at hb
     exact Zbp () ⟨by omega, by omega, by assumption, by assumption, by assumption, by assumption, by omega, by omega, by omega⟩ (Zae (by repeat (first | exact Zai | refine Zad rfl ?_)) (List.Sublist.refl _))
 obtain ⟨h1, h2, h3, h4, h5, h6, h7, h8, h9⟩ := hA
 rw [decide_eq_true (⟨h1, h2⟩ : _ ∧ _), h3, h4, h5, h6, decide_eq_true (⟨h7, h8, h9⟩ : _ ∧ _ ∧ _)]
 simp only [Bool.true_and]
 clear h3 h4 h5 h6 h7 h8 h9
 (repeat' (first | refine Za8 ?_ | refine Za1 ?_ | refine Za6 ?_ | (apply Za9; (first | exact Za4 rfl); exact rfl) | refine Zaa ?_))
 refine Zbv (fun i : Nat => ([(1, fp (rulesV kk r)), (3, exI .i64 (i : Int))], [])) (fun i => i ≤ r.crits.length ∧ (r.crits.take i).all Crit.fine = true) (fun i => r.crits.length - i) 0 ?_ ⟨Nat.zero_le _, rfl⟩ fun i hi => ?_
 · exact Zae (by repeat (first | exact Zai | refine Zad rfl ?_)) (List.Sublist.refl _)
 obtain ⟨hi, hpre⟩ := hi
 by_cases hlt : i < r.crits.length
 · have hcall := rcrit15_any r.crits[i]
   cases hv : r.crits[i].fine
   · rw [all_not hlt hv, Bool.false_and]
     rw [hv] at hcall
     clear hpre
     (repeat' (first | refine Za8 ?_ | refine Za1 ?_ | refine Za6 ?_ | (apply Za9; (first | exact Za3 rfl | exact Za4 rfl | (apply Za7; first | exact Zb1 rfl rfl | exact Zb2 rfl rfl) | (apply Zat; exact Zay rfl rfl rfl) | (apply Zah; exact Zau rfl rfl) | (apply Zak; exact Zar rfl rfl rfl) | (apply Zax; exact Zb3 rfl rfl) | (apply g_un; exact Zbg rfl)); exact rfl) | refine Zaa ?_ | refine Zag ?_ | refine Zaq ?_ | refine Zb4 rfl ?_ | (apply Zaj; exact rfl; (apply Zao; (refine Zaw Tryz.func35 rfl hcall rfl ?_; rintro _ _ ⟨rfl, rfl⟩))) | (refine Zac rfl (fun hb => ?_) (fun hb => ?_) <;> (repeat (first | replace hb := Zam hb | replace hb := Zan hb)) <;> (try (exfalso; omega)))))
     all_goals (try (exfalso; first | contradiction | omega))
     all_goals exact ⟨.inr rfl, ret1 rfl (.tmp rfl) (List.nil_sublist _) ⟨rfl, rfl⟩⟩
   · have hok := all_take hlt hpre hv
     rw [hv] at hcall
     clear hpre
     (repeat' (first | refine Za8 ?_ | refine Za1 ?_ | refine Za6 ?_ | (apply Za9; (first | exact Za3 rfl | exact Za4 rfl | (apply Za7; first | exact Zb1 rfl rfl | exact Zb2 rfl rfl) | (apply Zat; exact Zay rfl rfl rfl) | (apply Zah; first | exact Zau rfl rfl | exact Zbf rfl rfl) | (apply Zak; exact Zar rfl rfl rfl) | (apply Zax; exact Zb3 rfl rfl) | (apply g_un; exact Zbg rfl)); exact rfl) | refine Zaa ?_ | refine Zag ?_ | refine Zb8 rfl ?_ | (apply Zaj; exact rfl; (apply Zao; (refine Zaw Tryz.func35 rfl hcall rfl ?_; rintro _ _ ⟨rfl, rfl⟩))) | (refine Zac rfl (fun hb => ?_) (fun hb => ?_) <;> (repeat (first | replace hb := Zam hb | replace hb := Zan hb)) <;> (try (exfalso; omega)))))
     all_goals (try (exfalso; first | contradiction | omega))
     all_goals exact ⟨i + 1, ⟨by omega, hok⟩, by omega, Zae (by repeat (first | exact Zai | refine Zad rfl ?_)) (List.Sublist.refl _)⟩
 rw [show i = r.crits.length by omega, List.take_length] at hpre
 have htr : ∀ c ∈ r.crits, 0 ≤ c.trim := fun c hc => by
   have := List.all_eq_true.1 hpre c hc
   unfold Crit.fine at this
   have := of_decide_eq_true this
   exact this.2.2.2.2.2.2.2.1
 rw [hpre, Bool.true_and]
 clear hpre
 (repeat' (first | refine Za8 ?_ | refine Za1 ?_ | refine Za6 ?_ | (apply Za9; (first | exact Za3 rfl | exact Za4 rfl | (apply Za7; exact Zb1 rfl rfl) | (apply Zat; exact Zay rfl rfl rfl) | (apply Zah; exact Zau rfl rfl) | (apply Zax; exact Zb3 rfl rfl)); exact rfl) | refine Zaa ?_ | refine Zbk ?_ | (refine Zac rfl (fun hb => ?_) (fun hb => ?_) <;> (repeat (first | replace hb := Zam hb | replace hb := Zan hb)) <;> (try (exfalso; omega)))))
 all_goals (try (exfalso; omega))
 refine Zbv (fun i : Nat => ([(1, fp (rulesV kk r)), (4, exI .i64 (i : Int))], [])) (fun i => i ≤ r.ties.length ∧ (r.ties.take i).all TieD.fine = true) (fun i => r.ties.length - i) 0 ?_ ⟨Nat.zero_le _, rfl⟩ fun i hi => ?_
 · exact Zae (by repeat (first | exact Zai | refine Zad rfl ?_)) (List.Sublist.refl _)
 obtain ⟨hi, hpre⟩ := hi
 by_cases hlt : i < r.ties.length
 · by_cases h0 : r.ties[i].keys.length = 0
   · have hv : r.ties[i].fine = false := by unfold TieD.fine; rw [decide_eq_false (by omega)]; rfl
     rw [all_not hlt hv, Bool.false_and]
     clear hpre
     (repeat' (first | refine Za8 ?_ | refine Za1 ?_ | refine Za6 ?_ | (apply Za9; (first | exact Za3 rfl | exact Za4 rfl | (apply Za7; exact Zb1 rfl rfl) | (apply Zat; exact Zay rfl rfl rfl) | (apply Zah; first | exact Zau rfl rfl | exact Zcd rfl rfl) | (apply Zak; exact Zar rfl rfl rfl) | (apply Zax; exact Zb3 rfl rfl)); exact rfl) | refine Zaa ?_ | refine Zag ?_ | refine Zaq ?_ | (refine Zac rfl (fun hb => ?_) (fun hb => ?_) <;> (repeat (first | replace hb := Zam hb | replace hb := Zan hb)) <;> (try (exfalso; omega)))))
     all_goals (try (exfalso; first | contradiction | omega))
     all_goals exact ⟨.inr rfl, ret1 rfl (.tmp rfl) (List.nil_sublist _) ⟨rfl, rfl⟩⟩
   · have hfe : r.ties[i].fine = r.ties[i].keys.all KeyD.fine := by unfold TieD.fine; rw [decide_eq_true (by omega)]; rfl
     have hkl := hf8 _ (List.getElem_mem hlt)
     (repeat' (first | refine Za8 ?_ | refine Za1 ?_ | refine Za6 ?_ | (apply Za9; (first | exact Za3 rfl | exact Za4 rfl | (apply Za7; exact Zb1 rfl rfl) | (apply Zat; exact Zay rfl rfl rfl) | (apply Zah; first | exact Zau rfl rfl | exact Zcd rfl rfl) | (apply Zak; exact Zar rfl rfl rfl) | (apply Zax; exact Zb3 rfl rfl)); exact rfl) | refine Zaa ?_ | refine Zag ?_ | (refine Zac rfl (fun hb => ?_) (fun hb => ?_) <;> (repeat (first | replace hb := Zam hb | replace hb := Zan hb)) <;> (try (exfalso; omega)))))
     all_goals (try (exfalso; first | contradiction | omega))
     refine Zbv (fun q : Nat => ([(1, fp (rulesV kk r)), (4, exI .i64 (i : Int)), (5, exI .i64 (q : Int))], [])) (fun q => q ≤ r.ties[i].keys.length ∧ (r.ties[i].keys.take q).all KeyD.fine = true) (fun q => r.ties[i].keys.length - q) 0 ?_ ⟨Nat.zero_le _, rfl⟩ fun q hq => ?_
     · exact Zae (by repeat (first | exact Zai | refine Zad rfl ?_)) (List.Sublist.refl _)
     obtain ⟨hq, hpq⟩ := hq
     by_cases hlq : q < r.ties[i].keys.length
     · have hcall := rkey15_any r.ties[i].keys[q]
       cases hv : r.ties[i].keys[q].fine
       · rw [all_not hlt (show r.ties[i].fine = false by rw [hfe, all_not hlq hv]), Bool.false_and]
         rw [hv] at hcall
         clear hpre hpq
         (repeat' (first | refine Za8 ?_ | refine Za1 ?_ | refine Za6 ?_ | (apply Za9; (first | exact Za3 rfl | exact Za4 rfl | (apply Za7; first | exact Zb1 rfl rfl | exact Zb2 rfl rfl) | (apply Zat; exact Zay rfl rfl rfl) | (apply Zah; exact Zau rfl rfl) | (apply Zak; exact Zar rfl rfl rfl) | (apply Zax; exact Zb3 rfl rfl) | (apply g_un; exact Zbg rfl)); exact rfl) | refine Zaa ?_ | refine Zag ?_ | refine Zaq ?_ | refine Zb4 rfl ?_ | (apply Zaj; exact rfl; (apply Zao; (refine Zaw Tryz.func36 rfl hcall rfl ?_; rintro _ _ ⟨rfl, rfl⟩))) | (refine Zac rfl (fun hb => ?_) (fun hb => ?_) <;> (repeat (first | replace hb := Zam hb | replace hb := Zan hb)) <;> (try (exfalso; omega)))))
         all_goals (try (exfalso; first | contradiction | omega))
         all_goals exact ⟨.inr rfl, ret1 rfl (.tmp rfl) (List.nil_sublist _) ⟨rfl, rfl⟩⟩
       · have hok := all_take hlq hpq hv
         rw [hv] at hcall
         (repeat' (first | refine Za8 ?_ | refine Za1 ?_ | refine Za6 ?_ | (apply Za9; (first | exact Za3 rfl | exact Za4 rfl | (apply Za7; first | exact Zb1 rfl rfl | exact Zb2 rfl rfl) | (apply Zat; exact Zay rfl rfl rfl) | (apply Zah; first | exact Zau rfl rfl | exact Zbf rfl rfl) | (apply Zak; exact Zar rfl rfl rfl) | (apply Zax; exact Zb3 rfl rfl) | (apply g_un; exact Zbg rfl)); exact rfl) | refine Zaa ?_ | refine Zag ?_ | refine Zb8 rfl ?_ | (apply Zaj; exact rfl; (apply Zao; (refine Zaw Tryz.func36 rfl hcall rfl ?_; rintro _ _ ⟨rfl, rfl⟩))) | (refine Zac rfl (fun hb => ?_) (fun hb => ?_) <;> (repeat (first | replace hb := Zam hb | replace hb := Zan hb)) <;> (try (exfalso; omega)))))
         all_goals (try (exfalso; first | contradiction | omega))
         all_goals exact ⟨q + 1, ⟨by omega, hok⟩, by omega, Zae (by repeat (first | exact Zai | refine Zad rfl ?_)) (List.Sublist.refl _)⟩
     · rw [show q = r.ties[i].keys.length by omega, List.take_length, ← hfe] at hpq
       have hok := all_take hlt hpre hpq
       clear hpre hpq
       (repeat' (first | refine Za8 ?_ | refine Za1 ?_ | refine Za6 ?_ | (apply Za9; (first | exact Za3 rfl | exact Za4 rfl | (apply Za7; exact Zb1 rfl rfl) | (apply Zat; exact Zay rfl rfl rfl) | (apply Zah; first | exact Zau rfl rfl | exact Zbf rfl rfl) | (apply Zak; exact Zar rfl rfl rfl) | (apply Zax; exact Zb3 rfl rfl)); exact rfl) | refine Zbk ?_ | (refine Zac rfl (fun hb => ?_) (fun hb => ?_) <;> (repeat (first | replace hb := Zam hb | replace hb := Zan hb)) <;> (try (exfalso; omega)))))
       all_goals (try (exfalso; first | contradiction | omega))
       exact ⟨i + 1, ⟨by omega, hok⟩, by omega, Zae (by repeat (first | exact Zai | refine Zad rfl ?_)) (List.Sublist.refl _)⟩
 rw [show i = r.ties.length by omega, List.take_length] at hpre
 rw [hpre, Bool.true_and]
 clear hpre
 (repeat' (first | refine Za8 ?_ | refine Za1 ?_ | refine Za6 ?_ | (apply Za9; (first | exact Za3 rfl | exact Za4 rfl | (apply Za7; exact Zb1 rfl rfl) | (apply Zat; exact Zay rfl rfl rfl) | (apply Zah; exact Zau rfl rfl) | (apply Zax; exact Zb3 rfl rfl)); exact rfl) | refine Zaa ?_ | refine Zbk ?_ | (refine Zac rfl (fun hb => ?_) (fun hb => ?_) <;> (repeat (first | replace hb := Zam hb | replace hb := Zan hb)) <;> (try (exfalso; omega)))))
 all_goals (try (exfalso; omega))
 refine Zbv (fun i : Nat => ([(1, fp (rulesV kk r)), (6, exI .i64 (i : Int))], [])) (fun i => i ≤ r.rounds.length ∧ (r.rounds.take i).all (RoundD.fine r.crits) = true) (fun i => r.rounds.length - i) 0 ?_ ⟨Nat.zero_le _, rfl⟩ fun i hi => ?_
 · exact Zae (by repeat (first | exact Zai | refine Zad rfl ?_)) (List.Sublist.refl _)
 obtain ⟨hi, hpre⟩ := hi
 by_cases hlt : i < r.rounds.length
 · have hcall := hrnd r.rounds[i] htr
   cases hv : r.rounds[i].fine r.crits
   · rw [all_not hlt hv]
     rw [hv] at hcall
     clear hpre
     (repeat' (first | (apply Zbh 21; refine Stop.out ?_) | refine Za8 ?_ | refine Za1 ?_ | refine Za6 ?_ | (apply Za9; (first | exact Za3 rfl | (apply Za7; exact Zb1 rfl rfl) | (apply Zat; exact Zay rfl rfl rfl) | (apply Zah; exact Zau rfl rfl) | (apply Zax; exact Zb3 rfl rfl)); exact rfl) | refine Zaa ?_ | refine Zag ?_ | (refine Zac rfl (fun hb => ?_) (fun hb => ?_) <;> (repeat (first | replace hb := Zam hb | replace hb := Zan hb)) <;> (try (exfalso; omega)))))
     all_goals (try (exfalso; omega))
     refine ⟨?_⟩
     (refine Zbx 8 rfl ?_)
     all_goals ((apply Zb0 0 rfl (by decide +kernel) rfl (by decide +kernel) (by repeat (first | exact Za5)) Za0; (first | (apply Za7; first | exact Zb2 rfl rfl)); exact rfl))
     all_goals ((apply Za2 1 rfl (by decide +kernel) rfl (by repeat (first | exact Za5)) Za0; (first | (apply Zat; first | exact Zay rfl rfl rfl)); exact rfl))
     all_goals ((apply Zb0 2 rfl (by decide +kernel) rfl (by decide +kernel) (by repeat (first | exact Za5)) Za0; (first | (apply Za7; first | exact Zb1 rfl rfl)); exact rfl))
     all_goals ((apply Za2 3 rfl (by decide +kernel) rfl (by repeat (first | exact Za5)) Za0; (first | exact Za3 rfl); exact rfl))
     all_goals ((apply Za2 4 rfl (by decide +kernel) rfl (by repeat (first | exact Za5)) Za0; (first | (apply Zak; first | exact Zar rfl rfl rfl)); exact rfl))
     all_goals ((apply Zb0 5 rfl (by decide +kernel) rfl (by decide +kernel) (by repeat (first | exact Za5)) Za0; (first | (apply Za7; first | exact Zb2 rfl rfl)); exact rfl))
     all_goals ((apply Zap 6; exact (by decide +kernel); exact rfl; exact Za0; exact (fun _ _ h => h); (apply Zao; (refine Zaw Tryz.func37 rfl hcall rfl ?_; rintro _ _ ⟨rfl, rfl⟩))))
     all_goals ((apply Za2 7 rfl (by decide +kernel) rfl (by repeat (first | exact Za5)) Za0; (first | (apply g_un; first | exact Zbg rfl)); exact rfl))
     all_goals (refine Zb9 (by decide +kernel) ?_)
     all_goals ((repeat' (first | refine Za8 ?_ | refine Za1 ?_ | refine Za6 ?_ | (apply Za9; (first | exact Za4 rfl); exact rfl) | refine Zaq ?_ | refine Zb4 rfl ?_)))
     all_goals (try (exfalso; first | contradiction | omega))
     all_goals exact ⟨.inr rfl, ret1 rfl (.tmp rfl) (List.nil_sublist _) ⟨rfl, rfl⟩⟩
   · have hok := all_take hlt hpre hv
     rw [hv] at hcall
     clear hpre
     (repeat' (first | (apply Zbh 21; refine Stop.out ?_) | refine Za8 ?_ | refine Za1 ?_ | refine Za6 ?_ | (apply Za9; (first | exact Za3 rfl | (apply Za7; exact Zb1 rfl rfl) | (apply Zat; exact Zay rfl rfl rfl) | (apply Zah; exact Zau rfl rfl) | (apply Zax; exact Zb3 rfl rfl)); exact rfl) | refine Zaa ?_ | refine Zag ?_ | (refine Zac rfl (fun hb => ?_) (fun hb => ?_) <;> (repeat (first | replace hb := Zam hb | replace hb := Zan hb)) <;> (try (exfalso; omega)))))
     all_goals (try (exfalso; omega))
     refine ⟨?_⟩
     (refine Zbx 8 rfl ?_)
     all_goals ((apply Zb0 0 rfl (by decide +kernel) rfl (by decide +kernel) (by repeat (first | exact Za5)) Za0; (first | (apply Za7; first | exact Zb2 rfl rfl)); exact rfl))
     all_goals ((apply Za2 1 rfl (by decide +kernel) rfl (by repeat (first | exact Za5)) Za0; (first | (apply Zat; first | exact Zay rfl rfl rfl)); exact rfl))
     all_goals ((apply Zb0 2 rfl (by decide +kernel) rfl (by decide +kernel) (by repeat (first | exact Za5)) Za0; (first | (apply Za7; first | exact Zb1 rfl rfl)); exact rfl))
     all_goals ((apply Za2 3 rfl (by decide +kernel) rfl (by repeat (first | exact Za5)) Za0; (first | exact Za3 rfl); exact rfl))
     all_goals ((apply Za2 4 rfl (by decide +kernel) rfl (by repeat (first | exact Za5)) Za0; (first | (apply Zak; first | exact Zar rfl rfl rfl)); exact rfl))
     all_goals ((apply Zb0 5 rfl (by decide +kernel) rfl (by decide +kernel) (by repeat (first | exact Za5)) Za0; (first | (apply Za7; first | exact Zb2 rfl rfl)); exact rfl))
     all_goals ((apply Zap 6; exact (by decide +kernel); exact rfl; exact Za0; exact (fun _ _ h => h); (apply Zao; (refine Zaw Tryz.func37 rfl hcall rfl ?_; rintro _ _ ⟨rfl, rfl⟩))))
     all_goals ((apply Za2 7 rfl (by decide +kernel) rfl (by repeat (first | exact Za5)) Za0; (first | (apply g_un; first | exact Zbg rfl)); exact rfl))
     all_goals (refine Zb9 (by decide +kernel) ?_)
     all_goals ((repeat' (first | refine Za1 ?_ | refine Za6 ?_ | (apply Za9; (first | exact Za3 rfl | exact Za4 rfl | (apply Zah; exact Zbf rfl rfl)); exact rfl) | refine Zag ?_ | refine Zb8 rfl ?_)))
     all_goals (try (exfalso; first | contradiction | omega))
     all_goals exact ⟨i + 1, ⟨by omega, hok⟩, by omega, Zae (by repeat (first | exact Zai | refine Zad rfl ?_)) (List.Sublist.refl _)⟩
 · rw [show i = r.rounds.length by omega, List.take_length] at hpre
   rw [hpre]
   (repeat' (first | refine Za8 ?_ | refine Za1 ?_ | refine Za6 ?_ | (apply Za9; (first | exact Za3 rfl | exact Za4 rfl | (apply Za7; exact Zb1 rfl rfl) | (apply Zat; exact Zay rfl rfl rfl) | (apply Zah; exact Zau rfl rfl) | (apply Zax; exact Zb3 rfl rfl)); exact rfl) | refine Zaq ?_ | refine Zbk ?_ | (refine Zac rfl (fun hb => ?_) (fun hb => ?_) <;> (repeat (first | replace hb := Zam hb | replace hb := Zan hb)) <;> (try (exfalso; omega)))))
   all_goals (try (exfalso; omega))
   exact ⟨.inr rfl, ret1 rfl (.tmp rfl) (List.nil_sublist _) ⟨rfl, rfl⟩⟩
end Go.Proofs.YthldagplhklbnaaGreatDoor
