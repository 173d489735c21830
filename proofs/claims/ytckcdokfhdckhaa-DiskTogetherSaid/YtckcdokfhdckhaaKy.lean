/- Slices that a call itself makes: their cells as a list, read as Lean data. No program in sight. -/
import Derived.Test.YtckcdokfhdckhaaKx
import Derived.Deep.Slices
import Derived.Laws.AppendOwnNone
namespace Go.Kx
open Go.RowKit

variable {α : Type} {E : Enc α} {S S' : Nat → Prop} {w w' : World}

/-- A list of cells that reads as a list. -/
structure Elems (E : Enc α) (S : Nat → Prop) (w : World) (xs : List Value) (l : List α) : Prop where
  length : xs.length = l.length * E.size
  elem : ∀ i (h : i < l.length), E.rel S w ((xs.drop (i * E.size)).take E.size) l[i]

theorem Elems.mono {xs : List Value} {l : List α} (h : Elems E S w xs l) (hk : ∀ b, S b → b < w.heap.size → S' b ∧ w'.heap[b]? = w.heap[b]?) : Elems E S' w' xs l :=
  ⟨h.length, fun i hi => E.mono (h.elem i hi) hk⟩

theorem Elems.nil : Elems E S w [] [] := ⟨by simp, fun i h => absurd h (Nat.not_lt_zero _)⟩

theorem Elems.single {cs : List Value} {a : α} (h : E.rel S w cs a) : Elems E S w cs [a] := by
  have hl := E.len h
  refine ⟨by simp [hl], fun i hi => ?_⟩
  obtain rfl : i = 0 := by simpa using hi
  simp only [Nat.zero_mul, List.drop_zero, List.getElem_cons_zero]
  rw [List.take_of_length_le (by omega)]
  exact h

theorem Elems.append {xs ys : List Value} {l m : List α} (h : Elems E S w xs l) (k : Elems E S w ys m) : Elems E S w (xs ++ ys) (l ++ m) := by
  refine ⟨by rw [List.length_append, h.length, k.length, List.length_append, Nat.add_mul], fun i hi => ?_⟩
  rw [List.length_append] at hi
  by_cases hil : i < l.length
  · rw [List.getElem_append_left hil]
    have h1 := h.elem i hil
    have hle : i * E.size + E.size ≤ xs.length := by
      rw [h.length, ← Nat.succ_mul]; exact Nat.mul_le_mul_right _ hil
    rw [List.drop_append_of_le_length (by omega), List.take_append_of_le_length (by rw [List.length_drop]; omega)]
    exact h1
  · rw [List.getElem_append_right (by omega)]
    have h1 := k.elem (i - l.length) (by omega)
    have e : i * E.size = xs.length + (i - l.length) * E.size := by
      rw [h.length, ← Nat.add_mul]; congr 1; omega
    rw [e, List.drop_append, List.drop_of_length_le (by omega), show xs.length + (i - l.length) * E.size - xs.length = (i - l.length) * E.size by omega, List.nil_append]
    exact h1

theorem addr_add_plain (b off j : Nat) : (⟨b, off, none⟩ : Addr).add j = ⟨b, off + j, none⟩ := by unfold Addr.add; split <;> simp_all

theorem Sl.cells {a : Option Addr} {n c : Nat} {l : List α} (h : Sl E S w a n c l) (hsz : 0 < E.size) :
    ∃ xs, Elems E S w xs l ∧ ∀ ad, a = some ad → ∀ j u, xs[j]? = some u → w.cell? (ad.add j) = some u := by
  obtain ⟨f, hf⟩ := Go.Deep.choose_lt (α := List Value) (n := n) (p := fun i cs => ∃ b off, a = some ⟨b, off, none⟩ ∧ cs.length = E.size ∧ (∀ j, j < E.size → w.cell? ⟨b, off + i * E.size + j, none⟩ = cs[j]?) ∧ ∀ x, l[i]? = some x → E.rel S w cs x)
    (fun i hi => by
      have hl := h.length
      obtain ⟨b, off, cs, h1, _, _, h2, h3, h4⟩ := h.elem i (by omega)
      exact ⟨cs, b, off, h1, h2, h3, fun x hx => by rw [List.getElem?_eq_getElem (by omega)] at hx; cases hx; exact h4⟩)
  have hl := h.length
  have hdiv : ∀ k, k < n * E.size → k / E.size < n := fun k hk => (Nat.div_lt_iff_lt_mul hsz).2 hk
  have hget : ∀ k, k < n * E.size → ((List.range (n * E.size)).map fun k => (f (k / E.size)).getD (k % E.size) undef)[k]? = (f (k / E.size))[k % E.size]? := fun k hk => by
    obtain ⟨b, off, _, h2, _, _⟩ := hf (k / E.size) (hdiv k hk)
    have hm : k % E.size < (f (k / E.size)).length := by rw [h2]; exact Nat.mod_lt _ hsz
    rw [List.getElem?_map, List.getElem?_range hk]
    simp [List.getElem?_eq_getElem hm]
  refine ⟨(List.range (n * E.size)).map fun k => (f (k / E.size)).getD (k % E.size) undef, ⟨by simp [hl], fun i hi => ?_⟩, ?_⟩
  · obtain ⟨b, off, _, h2, _, h4⟩ := hf i (by omega)
    have e : (((List.range (n * E.size)).map fun k => (f (k / E.size)).getD (k % E.size) undef).drop (i * E.size)).take E.size = f i := by
      apply List.ext_getElem?
      intro j
      rw [List.getElem?_take]
      split
      · rename_i hj
        rw [List.getElem?_drop]
        have hlt : i * E.size + j < n * E.size := by
          have : (i + 1) * E.size ≤ n * E.size := Nat.mul_le_mul_right _ (by omega)
          rw [Nat.succ_mul] at this; omega
        rw [hget _ hlt]
        have d1 : (i * E.size + j) / E.size = i := by rw [Nat.mul_comm, Nat.mul_add_div hsz, Nat.div_eq_of_lt hj]; omega
        have d2 : (i * E.size + j) % E.size = j := by rw [Nat.mul_comm, Nat.mul_add_mod, Nat.mod_eq_of_lt hj]
        rw [d1, d2]
      · rename_i hj
        rw [List.getElem?_eq_none (by omega)]
    rw [e]
    exact h4 _ (List.getElem?_eq_getElem hi)
  · intro ad had j u hu
    have hj : j < n * E.size := by
      have := (List.getElem?_eq_some_iff.1 hu).1
      simpa using this
    rw [hget j hj] at hu
    obtain ⟨b, off, h1, h2, h3, _⟩ := hf (j / E.size) (hdiv j hj)
    rw [had] at h1
    cases h1
    rw [addr_add_plain]
    have := h3 (j % E.size) (Nat.mod_lt _ hsz)
    rw [hu] at this
    rw [← this]
    have hdm := Nat.div_add_mod j E.size
    rw [Nat.mul_comm] at hdm
    congr 2
    omega

theorem Sl.of_owns {base e n : Nat} {v : Value} {xs : List Value} {l : List α} (ho : w.ownsRow base e E.size v n xs) (he : Elems E S w xs l) (hsz : 0 < E.size) (hb : n * E.bytes ≤ 140737488355328)
    (hS : ∀ b, S b → b < w.heap.size → S' b) (hg : ∀ g, v.ownBlock = some g → S' g) : ∃ a c, v = .slice a n c ∧ Sl E S' w a n c l := by
  obtain ⟨hl, h⟩ := ho
  have hn : n = l.length := Nat.eq_of_mul_eq_mul_right hsz (hl.symm.trans he.length)
  subst hn
  rcases h with ⟨rfl, hn⟩ | ⟨g, cap, cur, rfl, hbg, hheap, hnc, hcm, hcs, htake⟩
  · exact ⟨none, 0, by rw [hn], ⟨rfl, by omega, by simp [maxLen], hb, fun _ => rfl, fun i h => absurd h (by omega)⟩⟩
  · refine ⟨_, _, rfl, ⟨rfl, hnc, hcm, hb, (by intro h; cases h), fun i hi => ⟨g, 0, (xs.drop (i * E.size)).take E.size, rfl, hg g rfl, (Array.getElem?_eq_some_iff.1 hheap).1, ?_, ?_, E.mono (he.elem i hi) fun b hb1 hb2 => ⟨hS b hb1 hb2, rfl⟩⟩⟩⟩
    · exact E.len (he.elem i hi)
    · intro j hj
      rw [cell_of_row w g _ cur e (0, 0) hheap, List.getElem?_take, if_pos hj, List.getElem?_drop, ← htake, List.getElem?_take]
      have hlt : i * E.size + j < l.length * E.size := by
        have : (i + 1) * E.size ≤ l.length * E.size := Nat.mul_le_mul_right _ (by omega)
        rw [Nat.succ_mul] at this; omega
      rw [if_pos hlt, Nat.zero_add]
      simp

/-- A made slice, and what came of it, in the words of 'Below'. -/
theorem below_of_grown {w w' : World} {v : Value} {B : Nat} (hg : w.grownBy w' v.ownBlock) (hB : B ≤ w.heap.size) (hv : ∀ g, v.ownBlock = some g → B ≤ g) : Below B w w' :=
  (Below.refl _ _).grown hg hB hv

theorem one_byte {cs : List Value} {a : UInt8} (h : eByte.rel S w cs a) : ∀ u ∈ cs, u.oneCell' = true := by
  simp only [eByte] at h; subst h; simp [Value.oneCell']
theorem one_sl {β : Type} {F : Enc β} {cs : List Value} {a : List β} (h : (eSl F).rel S w cs a) : ∀ u ∈ cs, u.oneCell' = true := by
  obtain ⟨_, _, _, rfl, _⟩ := h; simp [Value.oneCell']
theorem one_wr {cs : List Value} {a : Wr} (h : eWr.rel S w cs a) : ∀ u ∈ cs, u.oneCell' = true := by
  obtain ⟨_, _, _, rfl, _⟩ := h; simp [Value.oneCell']

theorem Elems.one {xs : List Value} {l : List α} (h : Elems E S w xs l) (hsz : 0 < E.size) (h1 : ∀ {cs : List Value} {a : α}, E.rel S w cs a → ∀ u ∈ cs, u.oneCell' = true) : ∀ u ∈ xs, u.oneCell' = true := by
  intro u hu
  obtain ⟨k, hk, rfl⟩ := List.mem_iff_getElem.1 hu
  have hkl : k / E.size < l.length := (Nat.div_lt_iff_lt_mul hsz).2 (by rw [← h.length]; exact hk)
  refine h1 (h.elem _ hkl) _ ?_
  rw [List.mem_iff_getElem?]
  refine ⟨k % E.size, ?_⟩
  have hm := Nat.mod_lt k hsz
  have hdm := Nat.div_add_mod k E.size
  rw [Nat.mul_comm] at hdm
  rw [List.getElem?_take, if_pos hm, List.getElem?_drop, hdm, List.getElem?_eq_getElem hk]


/-- append onto a slice that the call itself made, from whatever slice, nil too. -/
theorem wpList_append_slice {P : Program} {w : World} {ops : Array Oper} {rest : List Oper} {o : Oper} {a : Act} {Q : Exit → Act → World → Prop} (hgd : o.guard = none) (s x : Operand) (t : TypeId)
    (ho : o.op = .call { callee := .builtin .append, args := #[s, x], argTypes := #[t, t] })
    (base : Nat) (e : TypeId) (i : TypeInfo) (z : Value) (size bytes : Nat) (ht : P.underlying t = some (.slice e)) (hi : P.info? e = some i) (hz : i.zero = some z)
    (hsize : i.size = size) (hby : i.bytes = bytes) (hzs : z.cells.size = size) (hsz : 0 < size)
    (v : Value) (n : Nat) (xs : List Value) (hs : a.eval s = v) (hown : w.ownsRow base e size v n xs)
    (ao : Option Addr) (m c : Nat) (news : List Value) (hx : a.eval x = .slice ao m c) (hnone : ao = none → m = 0 ∧ c = 0) (hl : news.length = m * size) (hnews : ∀ ad, ao = some ad → ∀ j u, news[j]? = some u → w.cell? (ad.add j) = some u)
    (h1 : ∀ u ∈ news, u.oneCell' = true) (h63 : n + m ≤ maxLen) (hbytes : (n + m) * bytes ≤ 140737488355328) (hbase : base ≤ w.heap.size)
    (h : ∀ v' w', w'.ownsRow base e size v' (n + m) (xs ++ news) → w.grownBy w' v.ownBlock → wpList P ops Q rest (a.put o.dst v') w') : wpList P ops Q (o :: rest) a w := by
  cases ao with
  | none =>
    obtain ⟨rfl, rfl⟩ := hnone rfl
    obtain rfl : news = [] := List.eq_nil_of_length_eq_zero (by simpa using hl)
    exact wpList_append_own_none hgd s x t ho base e i size ht hi v n xs hs hown hx (h v w (by simpa using hown) ⟨rfl, rfl, rfl, Nat.le_refl _, fun _ _ _ => rfl⟩)
  | some ad =>
    exact wpList_append_own w hgd s x t ho base e i z size bytes ht hi hz hsize hby hzs hsz v n xs hs hown ad m c news hx hl (hnews ad rfl) h1 h63 hbytes hbase fun v' w' h2 h3 _ => h v' w' h2 h3

theorem Sl.none_zero {a : Option Addr} {n c : Nat} {l : List α} (h : Sl E S w a n c l) : a = none → n = 0 ∧ c = 0 := fun ha => by have := h.nil ha; have := h.cap; omega

/-- A guard for an arm of a walk: the operation that stands next writes slot d. -/
theorem atSlot {P : Program} {ops : Array Oper} {Q : Exit → Act → World → Prop} {rest : List Oper} {a : Act} {w : World} (d : Nat) {op : Op} {t : TypeId} {p : String} {af : Array Edge} {g : Option (Nat × Bool)}
    (h : wpList P ops Q (⟨some d, op, t, p, af, g⟩ :: rest) a w) : wpList P ops Q (⟨some d, op, t, p, af, g⟩ :: rest) a w := h

end Go.Kx
