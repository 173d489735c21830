/- The rules of slices that are made, appended to, copied; of struct values, strings. No program in sight. -/
import Derived.Test.YtckcdokfhdckhaaFrame1
import Derived.Maps.AppendAt
import Derived.Laws.AppendOwnNone
import Derived.OrdersHeld
import Derived.Laws.MakeOwn
import Derived.Laws.BytesString
import Derived.Deep.Slices
import Derived.Great.BuildSlice
namespace Go.Fr
open Go.RowKit Go.Kx

/-! ### Dropping what is owned, and seeing it otherwise -/

theorem WPL_leads {C : Cx} {ops : Array Oper} {Q : Post} {l : List Oper} {env env' : Env} {loc loc' : List Ent} (hl : Leads C env loc env' loc') (h : WPL C ops Q l env' loc') : WPL C ops Q l env loc := ⟨fun F a w hR => let ⟨F', hR'⟩ := hl F a w hR; h.out F' a w hR'⟩
theorem WP_leads {C : Cx} {c : Code} {Q : Post} {env env' : Env} {loc loc' : List Ent} (hl : Leads C env loc env' loc') (h : WP C c Q env' loc') : WP C c Q env loc := ⟨fun F a w hR => let ⟨F', hR'⟩ := hl F a w hR; h.out F' a w hR'⟩

/-- What is to hold behind a piece of code: the way on, forgetting all but I x. -/
def cutP {α : Type} (C : Cx) (I : α → Env × List Ent) (ok : α → Prop) (Q : Post) : Post := fun e env loc => match e with
  | .normal => ∃ x, ok x ∧ Leads C env loc (I x).1 (I x).2
  | e => Q e env loc

/-- Ways that meet behind a region. -/
theorem WP_cut {α : Type} {C : Cx} {x y : Code} {Q : Post} {env : Env} {loc : List Ent} (I : α → Env × List Ent) (ok : α → Prop) (h : WP C x (cutP C I ok Q) env loc) (k : ∀ z, ok z → WP C y Q (I z).1 (I z).2) : WP C (.seq x y) Q env loc := by
  constructor
  intro F a w hR
  refine wp_seq (Code.wp_mono ?_ (h.out F a w hR))
  rintro e a' w' ⟨F', env', loc', hR', hq⟩
  cases e with
  | normal =>
    obtain ⟨z, hz, hl⟩ := hq
    obtain ⟨F2, hR2⟩ := hl F' a' w' hR'
    exact (k z hz).out F2 a' w' hR2
  | _ => exact ⟨F', env', loc', hR', hq⟩
theorem WP_cutR {α : Type} {C : Cx} (id : Nat) {ops : Array Oper} {dr : Bool} {y : Code} {Q : Post} {env : Env} {loc : List Ent} (I : α → Env × List Ent) (ok : α → Prop) (h : WP C (.region id ops dr) (cutP C I ok Q) env loc) (k : ∀ z, ok z → WP C y Q (I z).1 (I z).2) : WP C (.seq (.region id ops dr) y) Q env loc := WP_cut I ok h k
theorem cut_at (id : Nat) {C : Cx} {ops : Array Oper} {dr : Bool} {y : Code} {Q : Post} {env : Env} {loc : List Ent} (h : WP C (.seq (.region id ops dr) y) Q env loc) : WP C (.seq (.region id ops dr) y) Q env loc := h
theorem cut_here {α : Type} {C : Cx} {I : α → Env × List Ent} {ok : α → Prop} {Q : Post} {env : Env} {loc : List Ent} (z : α) (hz : ok z) (hl : Leads C env loc (I z).1 (I z).2) : cutP C I ok Q .normal env loc := ⟨z, hz, hl⟩
theorem np_cut {α : Type} {C : Cx} {I : α → Env × List Ent} {ok : α → Prop} {Q : Post} (h : ∀ c env loc, ¬ Q (.panic c) env loc) : ∀ c env loc, ¬ cutP C I ok Q (.panic c) env loc := h

theorem Leads_drop {C : Cx} {env : Env} {loc loc' : List Ent} (hs : loc'.Sublist loc) : Leads C env loc env loc' := Leads_env (fun _ _ h => h) hs

/-- A row of one's own that may not be there yet (nil): slice value v, n elements of size sz. -/
def vec (v : Value) (T : TypeId) (sz n : Nat) (ps : List SP) : Ent where
  foot := match v.ownBlock with | some b => [b] | none => []
  rel F w := ∃ xs, w.ownsRow 0 T sz v n xs ∧ CellsR F w ps xs
  mono := by
    rintro S S' w w' ⟨xs, h1, h2⟩ hk hf
    refine ⟨xs, ⟨h1.1, ?_⟩, h2.mono hk⟩
    rcases h1.2 with h | ⟨b, cap, cur, rfl, h3, h4, h5⟩
    · exact .inl h
    · exact .inr ⟨b, cap, cur, rfl, h3, (hf b (by simp [Value.ownBlock])).trans h4, h5⟩

theorem vec_foot {v : Value} {T : TypeId} {sz n : Nat} {ps : List SP} {b : Nat} : b ∈ (vec v T sz n ps).foot ↔ v.ownBlock = some b := by
  show b ∈ (match v.ownBlock with | some b => [b] | none => []) ↔ _
  cases v.ownBlock with
  | none => simp
  | some c => simp [eq_comm]

/-- One owned thing, seen otherwise. -/
theorem LeadsS_turn {C : Cx} {env : Env} {loc : List Ent} {k : Nat} {e e' : Ent} (he : loc[k]? = some e) (hf : ∀ b, b ∈ e'.foot → b ∈ e.foot) (hr : ∀ F w, e.rel F w → e'.rel F w) : LeadsS C env loc env (loc.set k e') := by
  intro F a w hR
  have hk : k < loc.length := (List.getElem?_eq_some_iff.1 he).1
  have hset : loc.set k e' ++ C.out = (loc ++ C.out).set k e' := by rw [List.set_append_left _ _ hk]
  have hmem : e ∈ loc ++ C.out := List.mem_append_left _ (List.mem_of_getElem? he)
  refine ⟨⟨?_, ?_, ?_⟩, hR.env, hR.size, hR.defers, hR.ch, ?_, hR.grow⟩
  · rw [hset]; intro x hx
    rcases List.mem_or_eq_of_mem_set hx with h | rfl
    · exact hR.good.rel x h
    · exact hr F w (hR.good.rel e hmem)
  · rw [hset]; intro x hx b hb
    rcases List.mem_or_eq_of_mem_set hx with h | rfl
    · exact hR.good.lt x h b hb
    · exact hR.good.lt e hmem b (hf b hb)
  · rw [hset, List.pairwise_iff_getElem]
    intro i j hi hj hij b hb hb'
    rw [List.getElem_set] at hb hb'
    have hi2 : i < (loc ++ C.out).length := by simpa using hi
    have hj2 : j < (loc ++ C.out).length := by simpa using hj
    have hd := List.pairwise_iff_getElem.1 hR.good.disj i j hi2 hj2 hij
    have hek : (loc ++ C.out)[k]'(by rw [List.length_append]; omega) = e := by rw [List.getElem_append_left hk]; exact (List.getElem?_eq_some_iff.1 he).2
    split at hb <;> split at hb'
    · omega
    · rename_i h1 _; subst h1; rw [hek] at hd; exact hd b (hf b hb) hb'
    · rename_i _ h2; subst h2; rw [hek] at hd; exact hd b hb (hf b hb')
    · exact hd b hb hb'
  · intro x hx b hb
    rcases List.mem_or_eq_of_mem_set hx with h | rfl
    · exact hR.own x h b hb
    · exact hR.own e (List.mem_of_getElem? he) b (hf b hb)

theorem take_rel {F : Nat → Prop} {w : World} {ps : List SP} {cur : Array Value} (h : ∀ (i : Nat) (p : SP), ps[i]? = some p → ∃ v, cur[i]? = some v ∧ p.rel F w v) (hl : ps.length ≤ cur.size) : CellsR F w ps (cur.toList.take ps.length) :=
  ⟨by have e : cur.toList.length = cur.size := Array.length_toList
      rw [List.length_take]; omega, fun i p hp => by
    obtain ⟨v, h1, h2⟩ := h i p hp
    have : i < ps.length := (List.getElem?_eq_some_iff.1 hp).1
    exact ⟨v, by rw [List.getElem?_take, if_pos this, Array.getElem?_toList]; exact h1, h2⟩⟩

theorem row_len {F : Nat → Prop} {w : World} {ps : List SP} {cur : Array Value} (h : ∀ (i : Nat) (p : SP), ps[i]? = some p → ∃ v, cur[i]? = some v ∧ p.rel F w v) : ps.length ≤ cur.size := by
  rcases Nat.eq_zero_or_pos ps.length with h0 | h0
  · omega
  · obtain ⟨v, h4, _⟩ := h (ps.length - 1) ps[ps.length - 1] (List.getElem?_eq_getElem (by omega))
    have := (Array.getElem?_eq_some_iff.1 h4).1
    omega

theorem LeadsS_row_vec {C : Cx} {env : Env} {loc : List Ent} {k b T tot sz n c : Nat} {ps : List SP} (he : loc[k]? = some (row b T tot ps)) (ht : tot = c * sz) (hn : ps.length = n * sz) (h0 : 0 < sz) (hc : c ≤ maxLen) : LeadsS C env loc env (loc.set k (vec (.slice (some ⟨b, 0, none⟩) n c) T sz n ps)) := by
  refine LeadsS_turn he (fun x hx => ?_) ?_
  · have := vec_foot.1 hx
    simpa [row, Value.ownBlock, eq_comm] using this
  · rintro F w ⟨cur, h1, h2, h3⟩
    have hl := row_len h3
    refine ⟨cur.toList.take ps.length, ⟨by have e : cur.toList.length = cur.size := Array.length_toList
                                           rw [List.length_take]; omega, .inr ⟨b, c, cur, rfl, Nat.zero_le _, h1, ?_, hc, by omega, by rw [hn]⟩⟩, take_rel h3 hl⟩
    exact Nat.le_of_mul_le_mul_right (by omega : n * sz ≤ c * sz) h0

theorem LeadsS_vec_nil {C : Cx} {env : Env} {loc : List Ent} {T sz : Nat} : LeadsS C env loc env (vec (.slice none 0 0) T sz 0 [] :: loc) := by
  intro F a w hR
  have hf : ∀ b, b ∉ (vec (.slice none 0 0) T sz 0 []).foot := fun b hb => by have := vec_foot.1 hb; simp [Value.ownBlock] at this
  refine ⟨⟨fun e he => ?_, fun e he b hb => ?_, List.pairwise_cons.2 ⟨fun e he b hb => absurd hb (hf b), hR.good.disj⟩⟩, hR.env, hR.size, hR.defers, hR.ch, fun e he b hb => ?_, hR.grow⟩
  · rcases List.mem_cons.1 he with rfl | he
    · exact ⟨[], ⟨by simp, .inl ⟨rfl, rfl⟩⟩, rfl, fun i p hp => by cases hp⟩
    · exact hR.good.rel e he
  · rcases List.mem_cons.1 he with rfl | he
    · exact absurd hb (hf b)
    · exact hR.good.lt e he b hb
  · rcases List.mem_cons.1 he with rfl | he
    · exact absurd hb (hf b)
    · exact hR.own e he b hb

/-- What a row with elements is. -/
theorem vec_open {C : Cx} {F : Nat → Prop} {env : Env} {loc : List Ent} {a : Act} {w : World} (hR : Rel C F env loc a w) {k T sz n : Nat} {v : Value} {ps : List SP} (he : loc[k]? = some (vec v T sz n ps)) (hn : 0 < n) : ∃ b c, v = .slice (some ⟨b, 0, none⟩) n c ∧ n ≤ c ∧ c ≤ maxLen := by
  obtain ⟨xs, h1, h2⟩ := hR.good.rel _ (List.mem_append_left _ (List.mem_of_getElem? he))
  rcases h1.2 with ⟨_, h⟩ | ⟨b, cap, cur, rfl, _, _, h3, h4, _⟩
  · omega
  · exact ⟨b, cap, rfl, h3, h4⟩

theorem LeadsS_vec_row {C : Cx} {env : Env} {loc : List Ent} {k b T sz n c : Nat} {ps : List SP} (he : loc[k]? = some (vec (.slice (some ⟨b, 0, none⟩) n c) T sz n ps)) : LeadsS C env loc env (loc.set k (row b T (c * sz) ps)) := by
  refine LeadsS_turn he (fun x hx => vec_foot.2 ?_) ?_
  · have : x = b := by simpa [row] using hx
    subst this; rfl
  · rintro F w ⟨xs, h1, h2⟩
    rcases h1.2 with ⟨h, _⟩ | ⟨b', cap, cur, h, _, h3, h4, h5, h6, h7⟩
    · cases h
    · cases h
      refine ⟨cur, h3, h6, fun i p hp => ?_⟩
      obtain ⟨v, h8, h9⟩ := h2.at_ i p hp
      refine ⟨v, ?_, h9⟩
      rw [← h7, List.getElem?_take] at h8
      split at h8
      · rw [← Array.getElem?_toList]; exact h8
      · cases h8

theorem WPL_vec {C : Cx} {ops : Array Oper} {Q : Post} {l : List Oper} {env : Env} {loc : List Ent} {k T sz n : Nat} {v : Value} {ps : List SP} (he : loc[k]? = some (vec v T sz n ps)) (hn : 0 < n) (h : ∀ b c, v = .slice (some ⟨b, 0, none⟩) n c → n ≤ c → WPL C ops Q l env (loc.set k (row b T (c * sz) ps))) : WPL C ops Q l env loc := by
  constructor
  intro F a w hR
  obtain ⟨b, c, rfl, h1, _⟩ := vec_open hR he hn
  exact (h b c rfl h1).out F a w (LeadsS_vec_row he F a w hR)
theorem WP_vec {C : Cx} {c0 : Code} {Q : Post} {env : Env} {loc : List Ent} {k T sz n : Nat} {v : Value} {ps : List SP} (he : loc[k]? = some (vec v T sz n ps)) (hn : 0 < n) (h : ∀ b c, v = .slice (some ⟨b, 0, none⟩) n c → n ≤ c → WP C c0 Q env (loc.set k (row b T (c * sz) ps))) : WP C c0 Q env loc := by
  constructor
  intro F a w hR
  obtain ⟨b, c, rfl, h1, _⟩ := vec_open hR he hn
  exact (h b c rfl h1).out F a w (LeadsS_vec_row he F a w hR)

/-! ### Sources of cells -/

/-- A slice operand of m elements, and what its cells are. -/
def Src (C : Cx) (env : Env) (loc : List Ent) (x : Operand) (sz m : Nat) (qs : List SP) : Prop :=
  ∀ F a w, Rel C F env loc a w → ∃ ao c news, a.eval x = .slice ao m c ∧ (ao = none → m = 0 ∧ c = 0) ∧ news.length = m * sz ∧ CellsR F w qs news ∧ (∀ ad, ao = some ad → ∀ j u, news[j]? = some u → w.cell? (ad.add j) = some u) ∧ ∀ u ∈ news, u.oneCell' = true

theorem Src_isl0 {C : Cx} {env : Env} {loc : List Ent} {x : Operand} {α : Type} {E : Enc α} {fs : α → List SP} {l : List α} (hx : ev env x = some (isl E l)) [hE : Fits E fs] (h0 : ∀ a, (fs a).length = E.size := by exact fun _ => rfl) (hpos : 0 < E.size := by decide) (hs : ∀ a, Scs (fs a) := by exact fun _ => inferInstance) : Src C env loc x E.size l.length (l.flatMap fs) := by
  intro F a w hR
  obtain ⟨ao, n, c, hv, hsl⟩ := ev_eval hR hx
  obtain ⟨xs, hel, hc⟩ := hsl.cells hpos
  have hl := hsl.length
  subst hl
  have hcell : ∀ i (hi : i < l.length), CellsR F w (fs l[i]) ((xs.drop (i * E.size)).take E.size) := fun i hi => hE.out (hel.elem i hi)
  have hrel : CellsR F w (l.flatMap fs) xs := by
    have hlen := hel.length
    clear hsl hc hv hel hx
    induction l generalizing xs with
    | nil => simp at hlen; subst hlen; exact ⟨rfl, fun i p hp => by cases hp⟩
    | cons y ys ih =>
      have h1 := hcell 0 (by simp)
      simp only [Nat.zero_mul, List.drop_zero, List.getElem_cons_zero] at h1
      have h2 := ih (xs.drop E.size) (fun i hi => by have := hcell (i + 1) (by simpa using hi); simpa [List.drop_drop, Nat.succ_mul, Nat.add_comm] using this) (by rw [List.length_drop, hlen]; simp [Nat.succ_mul])
      rw [List.flatMap_cons]
      refine ⟨by rw [hlen, List.length_append, h0, length_flat h0, List.length_cons, Nat.succ_mul]; omega, fun i p hp => ?_⟩
      by_cases hi : i < (fs y).length
      · rw [List.getElem?_append_left hi] at hp
        obtain ⟨v, h3, h4⟩ := h1.at_ i p hp
        rw [List.getElem?_take, if_pos (by rw [← h0 y]; exact hi)] at h3
        exact ⟨v, h3, h4⟩
      · rw [List.getElem?_append_right (by omega)] at hp
        obtain ⟨v, h3, h4⟩ := h2.at_ _ p hp
        rw [List.getElem?_drop, h0] at h3
        rw [h0] at hi
        exact ⟨v, by rw [← h3]; congr 1; omega, h4⟩
  refine ⟨ao, c, xs, hv, fun h => hsl.none_zero h, hel.length, hrel, hc, hrel.one ⟨?_⟩⟩
  intro p hp
  obtain ⟨y, _, hp⟩ := List.mem_flatMap.1 hp
  exact (hs y).out p hp
theorem Src_isl {C : Cx} {env : Env} {loc : List Ent} {x : Operand} {α : Type} {E : Enc α} {fs : α → List SP} {l : List α} {sz : Nat} (hx : ev env x = some (isl E l)) [hE : Fits E fs] (hz : E.size = sz := by rfl) (h0 : ∀ a, (fs a).length = E.size := by exact fun _ => rfl) (hpos : 0 < E.size := by decide) (hs : ∀ a, Scs (fs a) := by exact fun _ => inferInstance) : Src C env loc x sz l.length (l.flatMap fs) := hz ▸ Src_isl0 hx h0 hpos hs


theorem Src_nil {C : Cx} {env : Env} {loc : List Ent} {x : Operand} {sz : Nat} (hx : ev env x = some (ex (.slice none 0 0))) : Src C env loc x sz 0 [] := by
  intro F a w hR
  exact ⟨none, 0, [], ev_eval hR hx, fun _ => ⟨rfl, rfl⟩, by simp, ⟨rfl, fun i p hp => (by cases hp)⟩, fun _ h => (by cases h), fun _ h => (by cases h)⟩

/-- A part of a row of one's own. -/
theorem Src_row {C : Cx} {env : Env} {loc : List Ent} {x : Operand} {k b off T tot sz m c : Nat} {ps qs : List SP} (hx : ev env x = some (ex (.slice (some ⟨b, off, none⟩) m c))) (he : loc[k]? = some (row b T tot ps)) (hq : (ps.drop off).take (m * sz) = qs) [hs : Scs qs] (hl : qs.length = m * sz := by first | rfl | (simp; done) | (simp; omega)) : Src C env loc x sz m qs := by
  intro F a w hR
  obtain ⟨cur, h1, h2, h3⟩ := hR.row_at he
  have hlen := row_len h3
  have hrel : CellsR F w qs ((cur.toList.drop off).take (m * sz)) := by
    refine ⟨?_, fun i p hp => ?_⟩
    · have : (List.take (m * sz) (List.drop off ps)).length = m * sz := by rw [hq, hl]
      rw [List.length_take, List.length_drop] at this
      rw [List.length_take, List.length_drop, Array.length_toList, hl]; omega
    · have hi : i < m * sz := by rw [← hl]; exact (List.getElem?_eq_some_iff.1 hp).1
      rw [← hq, List.getElem?_take, if_pos hi, List.getElem?_drop] at hp
      obtain ⟨v, h4, h5⟩ := h3 _ p hp
      exact ⟨v, by rw [List.getElem?_take, if_pos hi, List.getElem?_drop, Array.getElem?_toList]; exact h4, h5⟩
  refine ⟨some ⟨b, off, none⟩, c, _, ev_eval hR hx, fun h => (by cases h), by rw [hrel.len, hl], hrel, fun ad had j u hu => ?_, hrel.one hs⟩
  cases had
  rw [List.getElem?_take] at hu
  split at hu
  · rw [List.getElem?_drop, Array.getElem?_toList] at hu
    rw [add_plain]; simp [World.cell?, h1, hu]
  · cases hu

/-! ### append -/

/-- The state behind an append to a row of one's own. -/
theorem Rel.vec_write {C : Cx} {F : Nat → Prop} {env : Env} {loc : List Ent} {a : Act} {w w' : World} {k T sz n n' : Nat} {v v' : Value} {ps ps' : List SP} {xs' : List Value} {d : Nat} (hR : Rel C F env loc a w) (he : loc[k]? = some (vec v T sz n ps)) (hown : w'.ownsRow 0 T sz v' n' xs') (hrel : CellsR F w ps' xs') (hgrow : w.grownBy w' v.ownBlock)
    (hnew : ∀ b, v'.ownBlock = some b → b < w'.heap.size ∧ (v.ownBlock = some b ∨ w.heap.size ≤ b)) (hd : Nat.blt d C.N = true) : Rel C (fun j => F j ∧ j < w.heap.size) ((d, ex v') :: env) (loc.set k (vec v' T sz n' ps')) (a.put (some d) v') w' := by
  have hk : k < loc.length := (List.getElem?_eq_some_iff.1 he).1
  have hmem : vec v T sz n ps ∈ loc ++ C.out := List.mem_append_left _ (List.mem_of_getElem? he)
  have hvF : ∀ b, v.ownBlock = some b → b < w.heap.size ∧ ¬ F b := fun b hb => hR.good.lt _ hmem b (vec_foot.2 hb)
  have hm : ∀ j, F j → j < w.heap.size → (F j ∧ j < w.heap.size) ∧ w'.heap[j]? = w.heap[j]? := fun j h1 h2 => ⟨⟨h1, h2⟩, hgrow.block j h2 fun e => (hvF j e.symm).2 h1⟩
  have hkk : (loc ++ C.out)[k]'(by rw [List.length_append]; omega) = vec v T sz n ps := by rw [List.getElem_append_left hk]; exact (List.getElem?_eq_some_iff.1 he).2
  have hfar : ∀ i (hi : i < (loc ++ C.out).length), i ≠ k → ∀ b, v.ownBlock = some b → b ∉ ((loc ++ C.out)[i]).foot := by
    intro i hi hne b hb hbi
    rcases Nat.lt_or_gt_of_ne hne with hlt | hlt
    · exact List.pairwise_iff_getElem.1 hR.good.disj i k hi (by rw [List.length_append]; omega) hlt b hbi (by rw [hkk]; exact vec_foot.2 hb)
    · exact List.pairwise_iff_getElem.1 hR.good.disj k i (by rw [List.length_append]; omega) hi hlt b (by rw [hkk]; exact vec_foot.2 hb) hbi
  have hset : loc.set k (vec v' T sz n' ps') ++ C.out = (loc ++ C.out).set k (vec v' T sz n' ps') := by rw [List.set_append_left _ _ hk]
  have hnot : ∀ i (hi : i < (loc ++ C.out).length), i ≠ k → ∀ b, v'.ownBlock = some b → b ∉ ((loc ++ C.out)[i]).foot := by
    intro i hi hne b hb hbi
    rcases (hnew b hb).2 with h | h
    · exact hfar i hi hne b h hbi
    · have := (hR.good.lt _ (List.getElem_mem hi) b hbi).1; omega
  refine hR.next ⟨?_, ?_, ?_⟩ hm ?_ ?_ hd rfl
  · rw [hset]
    intro e he'
    obtain ⟨i, hi, rfl⟩ := List.mem_iff_getElem.1 he'
    rw [List.getElem_set]
    have hi2 : i < (loc ++ C.out).length := by simpa using hi
    split
    · exact ⟨xs', hown, hrel.mono hm⟩
    · rename_i hne
      exact ((loc ++ C.out)[i]).mono (hR.good.rel _ (List.getElem_mem hi2)) hm fun j hj => hgrow.block j (hR.good.lt _ (List.getElem_mem hi2) j hj).1 fun e => hfar i hi2 (Ne.symm hne) j e.symm hj
  · rw [hset]
    intro e he' j hj
    rcases List.mem_or_eq_of_mem_set he' with h | rfl
    · have := hR.good.lt e h j hj
      exact ⟨Nat.lt_of_lt_of_le this.1 hgrow.size, fun hh => this.2 hh.1⟩
    · have hj' := vec_foot.1 hj
      refine ⟨(hnew j hj').1, fun hh => ?_⟩
      rcases (hnew j hj').2 with h | h
      · exact (hvF j h).2 hh.1
      · omega
  · rw [hset, List.pairwise_iff_getElem]
    intro i j hi hj hij x hx hx'
    rw [List.getElem_set] at hx hx'
    have hi2 : i < (loc ++ C.out).length := by simpa using hi
    have hj2 : j < (loc ++ C.out).length := by simpa using hj
    have hd := List.pairwise_iff_getElem.1 hR.good.disj i j hi2 hj2 hij
    split at hx <;> split at hx'
    · omega
    · rename_i _ h2; exact hnot j hj2 (Ne.symm h2) x (vec_foot.1 hx) hx'
    · rename_i h1 _; exact hnot i hi2 (Ne.symm h1) x (vec_foot.1 hx') hx
    · exact hd x hx hx'
  · refine ⟨hgrow.os.trans hR.ch.os, hgrow.tape.trans hR.ch.tape, hgrow.output.trans hR.ch.output, Nat.le_trans hR.ch.size hgrow.size, fun j hj hx => (hgrow.block j (Nat.lt_of_lt_of_le hj hR.ch.size) fun e => ?_).trans (hR.ch.block j hj hx)⟩
    rcases hR.own _ (List.mem_of_getElem? he) j (vec_foot.2 e.symm) with h | h
    · omega
    · exact hx h
  · intro e he' j hj
    rcases List.mem_or_eq_of_mem_set he' with h | rfl
    · exact hR.own e h j hj
    · rcases (hnew j (vec_foot.1 hj)).2 with h | h
      · exact hR.own _ (List.mem_of_getElem? he) j (vec_foot.2 h)
      · exact .inl (Nat.le_trans hR.ch.size h)

section
variable {C : Cx} {l0 : List Ent} {env : Env} {loc : List Ent} {d : Nat} {ty : TypeId} {pos : String} {af : Array Edge} {g : Option (Nat × Bool)} {K : Env → List Ent → Prop}

theorem CellsR.app {F : Nat → Prop} {w : World} {ps qs : List SP} {cs ds : List Value} (h : CellsR F w ps cs) (k : CellsR F w qs ds) : CellsR F w (ps ++ qs) (cs ++ ds) := by
  have h1 := h.len
  refine ⟨by rw [List.length_append, List.length_append, h.len, k.len], fun i p hp => ?_⟩
  by_cases hi : i < ps.length
  · rw [List.getElem?_append_left hi] at hp
    rw [List.getElem?_append_left (by omega)]
    exact h.at_ i p hp
  · rw [List.getElem?_append_right (by omega)] at hp
    rw [List.getElem?_append_right (by omega), h1]
    exact k.at_ _ p hp

/-- append, to a row of one's own. -/
theorem WO_append {s x : Operand} {t e k n m : Nat} {v : Value} {ps qs : List SP} {sz bt : Nat} {z : Value} (hs : ev env s = some (ex v)) (he : loc[k]? = some (vec v e sz n ps)) (hx : Src C env loc x sz m qs) (ht : C.P.underlying t = some (.slice e)) [hT : TI C.P e sz bt z] (hk : ∀ v', K ((d, ex v') :: env) (loc.set k (vec v' e sz (n + m) (ps ++ qs)))) (hzs : (z.cells.size == sz) = true := by rfl) (h0 : Nat.blt 0 sz = true := by rfl) (hl : n + m ≤ maxLen := by first | omega | (simp only [maxLen]; omega) | (simp [maxLen]; omega)) (hb : (n + m) * bt ≤ 140737488355328 := by first | omega | (simp only [maxLen]; omega) | (simp [maxLen]; omega)) (hd : Nat.blt d C.N = true := by rfl) (hH : l0.Sublist (loc.eraseIdx k) := by exact List.nil_sublist _) : WO C (feet l0) ⟨some d, .call ⟨.builtin .append, #[s, x], #[t, t]⟩, ty, pos, af, g⟩ K env loc := by
  constructor
  intro F a w hR
  obtain ⟨ti, hi, rfl, rfl, hz⟩ := hT.out
  obtain ⟨xs, hown, hrel⟩ := hR.good.rel _ (List.mem_append_left _ (List.mem_of_getElem? he))
  obtain ⟨ao, c, news, hv, hno, hln, hnr, hcell, hone⟩ := hx F a w hR
  have h0' := ne_of_blt h0
  have hsv : a.eval s = v := ev_eval hR hs
  have hrun : ∃ v' w', (Builtin.append_ #[t, t] ty #[a.eval s, a.eval x]).run C.P w = .ok v' w' ∧ w'.ownsRow 0 e ti.size v' (n + m) (xs ++ news) ∧ w.grownBy w' v.ownBlock ∧ (v'.ownBlock = v.ownBlock ∨ v'.ownBlock = some w.heap.size) := by
    rw [hsv, hv]
    cases ao with
    | none =>
      obtain ⟨rfl, rfl⟩ := hno rfl
      have hn0 : news = [] := List.eq_nil_of_length_eq_zero (by simpa using hln)
      subst hn0
      exact ⟨v, w, run_append_owned_none (P := C.P) (w := w) 0 t ty e ti ti.size ht hi v n xs hown, by simpa using hown, ⟨rfl, rfl, rfl, Nat.le_refl _, fun _ _ _ => rfl⟩, .inl rfl⟩
    | some ad =>
      obtain ⟨v', w', h1, h2, h3, _, h4⟩ := run_append_own_at (P := C.P) w 0 t ty e ti z ti.size ti.bytes ht hi hz rfl rfl (by simpa using hzs) h0' v n xs hown ad m c news hln (hcell ad rfl) hone hl hb (Nat.zero_le _)
      exact ⟨v', w', h1, h2, h3, h4⟩
  obtain ⟨v', w', h1, h2, h3, h4⟩ := hrun
  have hex : (execOp a.eval ⟨some d, .call ⟨.builtin .append, #[s, x], #[t, t]⟩, ty, pos, af, g⟩).run C.P w = .ok (.value v') w' := by
    generalize a.eval = ρ at h1 ⊢
    simp only [execOp, resolve, invoke, builtin, Sem.run_bind, Sem.run_pure, Result.andThen_ok, List.map_toArray, List.map_cons, List.map_nil, h1]
  unfold Oper.wp
  rw [hex]
  have hmem := List.mem_append_left C.out (List.mem_of_getElem? he)
  refine ⟨_, _, _, hR.vec_write he h2 (hrel.app hnr) h3 (fun b hb => ?_) hd, h3.size, fun b hb hlt => ⟨hb, hlt⟩, fun b hb hF => h3.block b hb fun e => ?_, hk _⟩
  case refine_2 =>
    rcases hF with h | h
    · exact (hR.good.lt _ hmem b (vec_foot.2 e.symm)).2 h
    · exact hR.good.apart he (vec_foot.2 e.symm) hH h
  have hlt : b < w'.heap.size := by
    rcases h2.2 with ⟨rfl, _⟩ | ⟨b', _, _, rfl, _, h5, _⟩
    · cases hb
    · cases hb; exact (Array.getElem?_eq_some_iff.1 h5).1
  rcases h4 with h | h
  · exact ⟨hlt, .inl (h ▸ hb)⟩
  · rw [h] at hb; cases hb; exact ⟨hlt, .inr (Nat.le_refl _)⟩

end
end Go.Fr

/- Regions that draw their order. No program in sight. -/
namespace Go.Fr
open Go.RowKit Go.Kx

section any
variable {P : Program} {ops : Array Oper} {Q : Exit → Act → World → Prop} {md : Region.Mode} {n : Nat}

/-- No operation from number n on is through. -/
def noTail (n : Nat) (listed : Array Bool) : Bool := (List.range listed.size).all fun j => Nat.blt j n || !listed.getD j true

theorem noTail_set {listed : Array Bool} {i : Nat} (h : i < n) : noTail n (listed.setIfInBounds i true) = noTail n listed := by
  unfold noTail
  rw [Array.size_setIfInBounds, Bool.eq_iff_iff]
  simp only [List.all_eq_true, List.mem_range]
  refine forall_congr' fun j => imp_congr_right fun _ => ?_
  by_cases hj : j = i
  · subst hj; simp [h]
  · rw [getD_set_ne true (Ne.symm hj)]

/-- Whatever order is picked from here on; as long as no operation from number n on is through, S holds behind every operation that is carried out. -/
def wpAnyT (P : Program) (md : Region.Mode) (ops : Array Oper) (Q : Exit → Act → World → Prop) (n : Nat) (S : World → Prop) : Nat → Array Bool → Act → World → Prop
  | 0, listed, a, w => Region.ready md ops listed = [] ∧ Q .normal a w
  | fuel + 1, listed, a, w =>
    (Region.ready md ops listed = [] → Q .normal a w) ∧
    ∀ i ∈ Region.ready md ops listed, wpOp P ops Q i (fun a' w' => (noTail n (listed.setIfInBounds i true) = true → S w') ∧ wpAnyT P md ops Q n S fuel (listed.setIfInBounds i true) a' w') a w

theorem wpAny_of_T {S : World → Prop} : ∀ (fuel : Nat) (listed : Array Bool) (a : Act) (w : World), wpAnyT P md ops Q n S fuel listed a w → wpAny P md ops Q fuel listed a w
  | 0, _, _, _, h => h
  | fuel + 1, _, _, _, h => ⟨h.1, fun i hi => wpOp_mono (fun a' w' h' => wpAny_of_T fuel _ a' w' h'.2) (h.2 i hi)⟩

theorem wpAnyT_strong {S S' : World → Prop} (hS : ∀ w, S' w → S w) : ∀ (fuel : Nat) (listed : Array Bool) (a : Act) (w : World), wpAnyT P md ops Q n S' fuel listed a w → wpAnyT P md ops Q n S fuel listed a w
  | 0, _, _, _, h => h
  | fuel + 1, _, _, _, h => ⟨h.1, fun i hi => wpOp_mono (fun a' w' h' => ⟨fun hn => hS _ (h'.1 hn), wpAnyT_strong hS fuel _ a' w' h'.2⟩) (h.2 i hi)⟩

theorem noTail_set_false {listed : Array Bool} {i : Nat} (h : noTail n listed = false) : noTail n (listed.setIfInBounds i true) = false := by
  rw [← Bool.not_eq_true] at h ⊢
  intro h2
  apply h
  unfold noTail at h2 ⊢
  simp only [Array.size_setIfInBounds, List.all_eq_true, List.mem_range] at h2 ⊢
  intro j hj
  have := h2 j hj
  by_cases hji : i = j
  · subst hji
    have e : (listed.setIfInBounds i true).getD i true = true := by simp
    rw [e] at this
    simp at this
    simp [this]
  · rwa [getD_set_ne true hji] at this

theorem wpAnyT_free {S S' : World → Prop} : ∀ (fuel : Nat) (listed : Array Bool) (a : Act) (w : World), noTail n listed = false → wpAnyT P md ops Q n S' fuel listed a w → wpAnyT P md ops Q n S fuel listed a w
  | 0, _, _, _, _, h => h
  | fuel + 1, _, _, _, hn, h => ⟨h.1, fun i hi => wpOp_mono (fun a' w' h' => ⟨fun hn2 => (by rw [noTail_set_false hn] at hn2; cases hn2), wpAnyT_free fuel _ a' w' (noTail_set_false hn) h'.2⟩) (h.2 i hi)⟩

/-- Every operation from number n on waits for number i. -/
def tailB (md : Region.Mode) (ops : Array Oper) (n i : Nat) : Bool := (List.range ops.size).all fun j => Nat.blt j n || match ops[j]? with
  | some o => o.after.any fun e => Region.binds md e && e.on == i
  | none => true

theorem tailB_spec {i j : Nat} {oj : Oper} (h : tailB md ops n i = true) (hj : ops[j]? = some oj) (hn : ¬ j < n) : ∃ e ∈ oj.after, Region.binds md e = true ∧ e.on = i := by
  simp only [tailB, List.all_eq_true, List.mem_range] at h
  have h1 := h j (Array.getElem?_eq_some_iff.1 hj).1
  simp only [hj, Bool.or_eq_true, Nat.blt_eq, hn, false_or] at h1
  obtain ⟨e, he, hb⟩ := Array.any_eq_true'.1 h1
  simp only [Bool.and_eq_true, beq_iff_eq] at hb
  exact ⟨e, he, hb.1, hb.2⟩

theorem noTail_lt {listed : Array Bool} {j : Nat} (h : noTail n listed = true) (hj : j < n) : noTail n (listed.setIfInBounds j true) = true := by rw [noTail_set hj]; exact h

theorem wpAnyT_first {S S2 : World → Prop} {i : Nat} {oi : Oper} {v : Value} (hi : ops[i]? = some oi) (hsel : ∀ (j : Nat) (o : Oper) cs b, ops[j]? = some o → o.op ≠ .select cs b)
    (hQ : ∀ c a w, Q (.panic c) (a.put oi.dst v) w → Q (.panic c) a w) (hin : i < n) (hS2 : (∀ w, S2 w) ∨ ((∀ w, S w → S2 w) ∧ tailB md ops n i = true)) :
    ∀ (fuel : Nat) (listed : Array Bool) (a : Act) (w : World),
      (∀ j oj, ops[j]? = some oj → j ≠ i → listed.getD j true = false → (∀ e ∈ oj.after, Region.binds md e = true → e.on ≠ i) → oi.apart ops oj = true) →
      i ∈ Region.ready md ops listed → YieldsIf P ops S2 oi v a → (noTail n listed = true → S w) → ((∀ w, S2 w) ∨ noTail n listed = true) →
      wpAnyT P md ops Q n S fuel (listed.setIfInBounds i true) (a.put oi.dst v) w → wpAnyT P md ops Q n S (fuel + 1) listed a w := by
  intro fuel
  have hs2 : ∀ (listed : Array Bool) (w : World), (noTail n listed = true → S w) → ((∀ w, S2 w) ∨ noTail n listed = true) → S2 w := fun listed w h1 h2 => by
    rcases h2 with h2 | h2
    · exact h2 w
    · rcases hS2 with h3 | h3
      · exact h3 w
      · exact h3.1 w (h1 h2)
  induction fuel with
  | zero =>
    intro listed a w _ hr hy hS hn H
    refine ⟨fun h => (by rw [h] at hr; cases hr), fun j hj => ?_⟩
    by_cases hji : j = i
    · subst hji; exact hy.wpOp hi (hs2 _ _ hS hn) ⟨fun h => hS (by rwa [noTail_set hin] at h), H⟩
    · have := ready_mono hj hji
      rw [H.1] at this
      cases this
  | succ fuel ih =>
    intro listed a w hfree hr hy hS hn H
    refine ⟨fun h => (by rw [h] at hr; cases hr), fun j hj => ?_⟩
    by_cases hji : j = i
    · subst hji; exact hy.wpOp hi (hs2 _ _ hS hn) ⟨fun h => hS (by rwa [noTail_set hin] at h), H⟩
    · have h1 := H.2 j (ready_mono hj hji)
      obtain ⟨hjun, oj, hoj, hall⟩ := mem_ready.1 hj
      have hnot : ∀ e ∈ oj.after, Region.binds md e = true → e.on ≠ i := fun e he hb heq => by
        have h1 := hall e he hb
        have h0 := (mem_ready.1 hr).1
        rw [heq] at h1
        rcases Nat.lt_or_ge i listed.size with h' | h'
        · simp [h'] at h0 h1; rw [h0] at h1; cases h1
        · simp [Array.getElem?_eq_none h'] at h1
      have hn' : (∀ w, S2 w) ∨ noTail n (listed.setIfInBounds j true) = true := by
        rcases hS2 with h3 | h3
        · exact .inl h3
        · by_cases hjn : j < n
          · exact hn.imp id fun h => noTail_lt h hjn
          · obtain ⟨e, he, hb, heq⟩ := tailB_spec h3.2 hoj hjn
            exact absurd heq (hnot e he hb)
      have h2 := wpOp_putIf hoj (hfree j oj hoj hji hjun hnot) (fun cs b => hsel i oi cs b hi) (fun cs b => hsel j oj cs b hoj) hQ hy h1
      have hfree' : ∀ k ok, ops[k]? = some ok → k ≠ i → (listed.setIfInBounds j true).getD k true = false →
          (∀ e ∈ ok.after, Region.binds md e = true → e.on ≠ i) → oi.apart ops ok = true := fun k ok hk hki hun hno => by
        refine hfree k ok hk hki ?_ hno
        by_cases hjk : j = k
        · subst hjk; exact hjun
        · rw [getD_set_ne true hjk] at hun; exact hun
      refine wpOp_mono (fun a' w' h3 => ?_) h2
      have h4 : noTail n (listed.setIfInBounds j true) = true → S w' := fun h => h3.2.1 (by rw [Array.setIfInBounds_comm _ _ (Ne.symm hji), noTail_set hin]; exact h)
      refine ⟨h4, ih (listed.setIfInBounds j true) a' w' hfree' (ready_mono hr (Ne.symm hji)) h3.1 h4 hn' ?_⟩
      rw [Array.setIfInBounds_comm _ _ hji]
      exact h3.2.2

end any

/-- The rest of a region, in whatever order; the blocks H stay as they are till all operations below number n are through. -/
structure WPY (C : Cx) (H : Nat → Prop) (n : Nat) (ops : Array Oper) (Q : Post) (fuel : Nat) (listed : Array Bool) (env : Env) (loc : List Ent) : Prop where
  out : ∀ F a w, Rel C F env loc a w → wpAnyT C.P .any ops (lift C Q) n (Hold H F w) fuel listed a w

theorem WP_draw {C : Cx} (l0 : List Ent) (n : Nat) {id : Nat} {l : List Oper} {Q : Post} {env : Env} {loc : List Ent} (hm : C.P.follows .mixedOrders = true) (h : WPY C (feet l0) n l.toArray Q l.toArray.size (Array.replicate l.toArray.size false) env loc) : WP C (.region id l.toArray true) Q env loc := by
  constructor
  intro F a w hR
  refine wp_region_any hm (wpAny_of_T (S := Hold (feet l0) F w.drew) _ _ _ _ (h.out F a _ ?_))
  refine ⟨⟨fun e he => e.mono (hR.good.rel e he) (fun b hb _ => ⟨hb, rfl⟩) fun _ _ => rfl, hR.good.lt, hR.good.disj⟩, fun t p hp => p.mono (hR.env t p hp) fun b hb _ => ⟨hb, rfl⟩, hR.size, hR.defers, ?_, hR.own, hR.grow⟩
  exact ⟨hR.ch.os, hR.ch.tape, hR.ch.output, hR.ch.size, hR.ch.block⟩

theorem WPY_done {C : Cx} {H : Nat → Prop} {n : Nat} {ops : Array Oper} {Q : Post} {fuel : Nat} {listed : Array Bool} {env : Env} {loc : List Ent} (hr : Region.ready .any ops listed = []) (h : Q .normal env loc) : WPY C H n ops Q fuel listed env loc := by
  constructor
  intro F a w hR
  cases fuel with
  | zero => exact ⟨hr, F, env, loc, hR, h⟩
  | succ k => exact ⟨fun _ => ⟨F, env, loc, hR, h⟩, by rw [hr]; simp⟩

/-- The guard, if there is one, says yes. -/
def GuardOn (C : Cx) (ops : Array Oper) (env : Env) (g : Option (Nat × Bool)) : Prop := ∀ F loc a w, Rel C F env loc a w → ∀ o : Oper, o.guard = g → Region.wanted o (yielded ops a.tmps) = true
theorem guard_none {C : Cx} {ops : Array Oper} {env : Env} : GuardOn C ops env none := fun _ _ _ _ _ _ h => by simp [Region.wanted, h]
theorem guard_some {C : Cx} {ops : Array Oper} {env : Env} {j dj : Nat} {want : Bool} (hj : (ops[j]?).bind (·.dst) = some dj) (hdj : Nat.blt dj C.N = true) (he : look dj env = some (exB want)) : GuardOn C ops env (some (j, want)) := fun _ _ _ _ hR o h => by
  simp [Region.wanted, h, yielded_of hR hj (ne_of_blt hdj) he]

/-- The conditions, all reckoned from the region's text. -/
def takeB (ops : Array Oper) (listed : Array Bool) (i : Nat) : Bool := Region.noSelect ops && Region.free .any ops listed i && (Region.ready .any ops listed).contains i

theorem lift_panic {C : Cx} {Q : Post} {o : Oper} {v : Value} (hQ : ∀ c env loc, ¬ Q (.panic c) env loc) : ∀ c a w, lift C Q (.panic c) (a.put o.dst v) w → lift C Q (.panic c) a w := fun c _ _ ⟨_, env, loc, _, h⟩ => absurd h (hQ c env loc)

/-- An operation that yields in any world is taken first. -/
theorem WPY_pure {C : Cx} {H : Nat → Prop} {n : Nat} {ops : Array Oper} {Q : Post} {fuel : Nat} {listed : Array Bool} {env : Env} {loc : List Ent} (i : Nat) {d : Nat} {op : Op} {ty : TypeId} {pos : String} {af : Array Edge} {g : Option (Nat × Bool)} {p : SP} (hi : ops[i]? = some ⟨some d, op, ty, pos, af, g⟩) (hb : takeB ops listed i = true) (hin : Nat.blt i n = true) (hQ : ∀ c env loc, ¬ Q (.panic c) env loc) (hg : GuardOn C ops env g)
    (h : WT C AnyW ⟨some d, op, ty, pos, af, g⟩ p env loc) (hd : Nat.blt d C.N = true) (hk : WPY C H n ops Q fuel (listed.setIfInBounds i true) ((d, p) :: env) loc) : WPY C H n ops Q (fuel + 1) listed env loc := by
  constructor
  intro F a w hR
  obtain ⟨v, hp, hr⟩ := h.out F a w hR
  simp only [takeB, Bool.and_eq_true] at hb
  exact wpAnyT_first (S2 := fun _ => True) hi (Region.noSelect_spec hb.1.1) (lift_panic hQ) (ne_of_blt hin) (.inl fun _ => trivial) fuel listed a w (Region.free_spec hi hb.1.2) (by simpa using hb.2) (.inl ⟨hg F loc a w hR _ rfl, fun w' _ => hr w' trivial⟩) (fun _ _ _ _ => rfl) (.inl fun _ => trivial) (hk.out F _ w (hR.put hd hp))

/-- An operation that reads what stays as it is, is taken first. -/
theorem WPY_take {C : Cx} {H : Nat → Prop} {n : Nat} {ops : Array Oper} {Q : Post} {fuel : Nat} {listed : Array Bool} {env : Env} {loc : List Ent} (i : Nat) {d : Nat} {op : Op} {ty : TypeId} {pos : String} {af : Array Edge} {g : Option (Nat × Bool)} {p : SP} (hi : ops[i]? = some ⟨some d, op, ty, pos, af, g⟩) (hb : takeB ops listed i = true) (hin : Nat.blt i n = true) (htl : (tailB .any ops n i && noTail n listed) = true) (hQ : ∀ c env loc, ¬ Q (.panic c) env loc) (hg : GuardOn C ops env g)
    (h : WT C (Hold H) ⟨some d, op, ty, pos, af, g⟩ p env loc) (hd : Nat.blt d C.N = true) (hk : WPY C H n ops Q fuel (listed.setIfInBounds i true) ((d, p) :: env) loc) : WPY C H n ops Q (fuel + 1) listed env loc := by
  constructor
  intro F a w hR
  obtain ⟨v, hp, hr⟩ := h.out F a w hR
  simp only [takeB, Bool.and_eq_true] at hb htl
  exact wpAnyT_first (S2 := Hold H F w) hi (Region.noSelect_spec hb.1.1) (lift_panic hQ) (ne_of_blt hin) (.inr ⟨fun _ h => h, htl.1⟩) fuel listed a w (Region.free_spec hi hb.1.2) (by simpa using hb.2) (.inl ⟨hg F loc a w hR _ rfl, fun w' hw' => hr w' hw'⟩) (fun _ _ _ _ => rfl) (.inr htl.2) (hk.out F _ w (hR.put hd hp))

/-- A guarded operation whose guard says no is taken first. -/
theorem WPY_off {C : Cx} {H : Nat → Prop} {n : Nat} {ops : Array Oper} {Q : Post} {fuel : Nat} {listed : Array Bool} {env : Env} {loc : List Ent} (i : Nat) {d : Nat} {op : Op} {ty : TypeId} {pos : String} {af : Array Edge} {j dj : Nat} {b want : Bool} (hi : ops[i]? = some ⟨some d, op, ty, pos, af, some (j, want)⟩) (hb : takeB ops listed i = true) (hin : Nat.blt i n = true) (hQ : ∀ c env loc, ¬ Q (.panic c) env loc)
    (hj : (ops[j]?).bind (·.dst) = some dj) (hdj : Nat.blt dj C.N = true) (he : look dj env = some (exB b)) (hbw : (b == want) = false) (hd : Nat.blt d C.N = true) (hk : WPY C H n ops Q fuel (listed.setIfInBounds i true) ((d, ex undef) :: env) loc) : WPY C H n ops Q (fuel + 1) listed env loc := by
  constructor
  intro F a w hR
  simp only [takeB, Bool.and_eq_true] at hb
  have hy := yielded_of hR hj (ne_of_blt hdj) he
  exact wpAnyT_first (S2 := fun _ => True) hi (Region.noSelect_spec hb.1.1) (lift_panic hQ) (ne_of_blt hin) (.inl fun _ => trivial) fuel listed a w (Region.free_spec hi hb.1.2) (by simpa using hb.2) (.inr ⟨by simp only [Region.wanted, hy]; simpa using hbw, rfl⟩) (fun _ _ _ _ => rfl) (.inl fun _ => trivial) (hk.out F _ w (hR.put hd rfl))

theorem WPY_offu {C : Cx} {H : Nat → Prop} {n : Nat} {ops : Array Oper} {Q : Post} {fuel : Nat} {listed : Array Bool} {env : Env} {loc : List Ent} (i : Nat) {d : Nat} {op : Op} {ty : TypeId} {pos : String} {af : Array Edge} {j dj : Nat} {want : Bool} (hi : ops[i]? = some ⟨some d, op, ty, pos, af, some (j, want)⟩) (hb : takeB ops listed i = true) (hin : Nat.blt i n = true) (hQ : ∀ c env loc, ¬ Q (.panic c) env loc)
    (hj : (ops[j]?).bind (·.dst) = some dj) (hdj : Nat.blt dj C.N = true) (he : look dj env = some (ex undef)) (hd : Nat.blt d C.N = true) (hk : WPY C H n ops Q fuel (listed.setIfInBounds i true) ((d, ex undef) :: env) loc) : WPY C H n ops Q (fuel + 1) listed env loc := by
  constructor
  intro F a w hR
  simp only [takeB, Bool.and_eq_true] at hb
  have hy := yielded_undef hR hj (ne_of_blt hdj) he
  exact wpAnyT_first (S2 := fun _ => True) hi (Region.noSelect_spec hb.1.1) (lift_panic hQ) (ne_of_blt hin) (.inl fun _ => trivial) fuel listed a w (Region.free_spec hi hb.1.2) (by simpa using hb.2) (.inr ⟨by simp only [Region.wanted, hy]; simp, rfl⟩) (fun _ _ _ _ => rfl) (.inl fun _ => trivial) (hk.out F _ w (hR.put hd rfl))


/-- Whichever of those that may come up comes up: each is carried out. -/
theorem WPY_all {C : Cx} {H : Nat → Prop} {n : Nat} {ops : Array Oper} {Q : Post} {fuel : Nat} {listed : Array Bool} {env : Env} {loc : List Ent} (rs : List Nat) (hr : Region.ready .any ops listed = rs) (hne : rs.isEmpty = false)
    (h : ∀ i ∈ rs, ∃ o, ops[i]? = some o ∧ GuardOn C ops env o.guard ∧ ∃ H', (noTail n (listed.setIfInBounds i true) = true → ∀ b, H b → H' b) ∧ WO C H' o (fun env loc => WPY C H n ops Q fuel (listed.setIfInBounds i true) env loc) env loc) : WPY C H n ops Q (fuel + 1) listed env loc := by
  constructor
  intro F a w hR
  refine ⟨fun h0 => (by rw [hr] at h0; subst h0; cases hne), fun i hi => ?_⟩
  obtain ⟨o, ho, hg, H', hH, hw⟩ := h i (hr ▸ hi)
  unfold wpOp
  simp only [ho]
  rw [if_pos (hg F loc a w hR _ rfl)]
  refine .inl (upon_mono ?_ (fun _ _ _ h => h.elim) (hw.out F a w hR))
  rintro a' w' ⟨F', env', loc', hR', hsz, hgr, hsame, hk⟩
  have h5 := hk.out F' a' w' hR'
  cases hnt : noTail n (listed.setIfInBounds i true) with
  | false => exact ⟨fun h => (by cases h), wpAnyT_free _ _ _ _ hnt h5⟩
  | true =>
    refine ⟨fun _ b hb hFH => hsame b hb (hFH.imp id fun h => hH hnt b h), wpAnyT_strong (fun w2 h2 b hb hFH => ?_) _ _ _ _ h5⟩
    rw [h2 b (Nat.lt_of_lt_of_le hb hsz) (hFH.imp (fun h => hgr b h hb) id)]
    exact hsame b hb (hFH.imp id fun h => hH hnt b h)

/-- The same, with all that is owned held. -/
theorem WP_drawl {C : Cx} (n : Nat) {id : Nat} {l : List Oper} {Q : Post} {env : Env} {loc : List Ent} (hm : C.P.follows .mixedOrders = true) (h : WPY C (feet loc) n l.toArray Q l.toArray.size (Array.replicate l.toArray.size false) env loc) : WP C (.region id l.toArray true) Q env loc := WP_draw loc n hm h

theorem np_ret {C : Cx} {fn : Func} {R : SP → List Ent → Prop} : ∀ c env loc, ¬ retP C fn R (.panic c) env loc := fun _ _ _ h => h.1.elim (fun e => by cases e) (fun e => by cases e)
theorem np_then {K : Env → List Ent → Prop} {Q : Post} (h : ∀ c env loc, ¬ Q (.panic c) env loc) : ∀ c env loc, ¬ thenP K Q (.panic c) env loc := h
theorem np_block {id : Nat} {Q : Post} (h : ∀ c env loc, ¬ Q (.panic c) env loc) : ∀ c env loc, ¬ inBlockP id Q (.panic c) env loc := h

/-- One alone may come up. -/
theorem WPY_one {C : Cx} {H H' : Nat → Prop} {n : Nat} {ops : Array Oper} {Q : Post} {fuel : Nat} {listed : Array Bool} {env : Env} {loc : List Ent} {o : Oper} (i : Nat) (hr : Region.ready .any ops listed = [i]) (ho : ops[i]? = some o) (hg : GuardOn C ops env o.guard) (hH : noTail n (listed.setIfInBounds i true) = true → ∀ b, H b → H' b)
    (h : WO C H' o (fun env loc => WPY C H n ops Q fuel (listed.setIfInBounds i true) env loc) env loc) : WPY C H n ops Q (fuel + 1) listed env loc :=
  WPY_all [i] hr rfl fun j hj => by
    rw [List.mem_singleton] at hj; subst hj
    exact ⟨o, ho, hg, H', hH, h⟩

theorem WPY_two {C : Cx} {H H1 H2 : Nat → Prop} {n : Nat} {ops : Array Oper} {Q : Post} {fuel : Nat} {listed : Array Bool} {env : Env} {loc : List Ent} {o1 o2 : Oper} (i j : Nat) (hr : Region.ready .any ops listed = [i, j]) (ho1 : ops[i]? = some o1) (hg1 : GuardOn C ops env o1.guard) (hH1 : noTail n (listed.setIfInBounds i true) = true → ∀ b, H b → H1 b) (ho2 : ops[j]? = some o2) (hg2 : GuardOn C ops env o2.guard) (hH2 : noTail n (listed.setIfInBounds j true) = true → ∀ b, H b → H2 b)
    (h1 : WO C H1 o1 (fun env loc => WPY C H n ops Q fuel (listed.setIfInBounds i true) env loc) env loc) (h2 : WO C H2 o2 (fun env loc => WPY C H n ops Q fuel (listed.setIfInBounds j true) env loc) env loc) : WPY C H n ops Q (fuel + 1) listed env loc :=
  WPY_all [i, j] hr rfl fun k hk => by
    rcases List.mem_cons.1 hk with rfl | hk
    · exact ⟨o1, ho1, hg1, H1, hH1, h1⟩
    · rw [List.mem_singleton] at hk; subst hk
      exact ⟨o2, ho2, hg2, H2, hH2, h2⟩

/-- An operation whose guard says no is carried out (nothing is). -/
theorem WPY_case {C : Cx} {H : Nat → Prop} {n : Nat} {ops : Array Oper} {Q : Post} {fuel : Nat} {listed : Array Bool} {env : Env} {loc : List Ent} (d : Nat) {b : Bool} (he : look d env = some (exB b))
    (h1 : b = true → WPY C H n ops Q fuel listed ((d, exB true) :: env) loc) (h0 : b = false → WPY C H n ops Q fuel listed ((d, exB false) :: env) loc) : WPY C H n ops Q fuel listed env loc := by
  have key : ∀ b', b = b' → ∀ F a w, Rel C F env loc a w → Rel C F ((d, exB b') :: env) loc a w := fun b' hb F a w hR => ⟨hR.good, fun t p hp => by
    rw [look_cons] at hp
    split at hp
    · rename_i e; cases hp; subst e hb; exact hR.env _ _ he
    · exact hR.env t p hp, hR.size, hR.defers, hR.ch, hR.own, hR.grow⟩
  constructor
  intro F a w hR
  cases hb : b with
  | true => exact (h1 hb).out F a w (key _ hb F a w hR)
  | false => exact (h0 hb).out F a w (key _ hb F a w hR)

end Go.Fr

/- More rules: slice expressions, arrays, numbers' bits, strings, making slices, copy, calls of function values. No program in sight. -/
namespace Go.Fr
open Go.RowKit Go.Kx

theorem Sl.sub {α : Type} {E : Enc α} {F : Nat → Prop} {w : World} {a : Option Addr} {n c : Nat} {l : List α} (h : Sl E F w a n c l) (lo hi m : Nat) (h1 : lo ≤ hi) (h2 : hi ≤ n) (h3 : hi ≤ m) (h4 : m ≤ c) :
    Sl E F w (if m = lo then a else a.map (·.add (lo * E.size))) (hi - lo) (m - lo) ((l.take hi).drop lo) := by
  have hl := h.length
  have hcm := h.capMax
  have hb := h.bytes
  refine ⟨by rw [List.length_drop, List.length_take]; omega, by omega, by omega, Nat.le_trans (Nat.mul_le_mul_right _ (by omega)) hb, fun ha => ?_, fun i hi' => ?_⟩
  · split at ha
    · omega
    · have := h.nil (by simpa using ha); omega
  · have hil : lo + i < l.length := by rw [List.length_drop, List.length_take] at hi'; omega
    have hlt : i < hi - lo := by rw [List.length_drop, List.length_take] at hi'; omega
    obtain ⟨b, off, cs, rfl, h6, h7, h8, h9, h10⟩ := h.elem (lo + i) hil
    rw [if_neg (by omega)]
    refine ⟨b, off + lo * E.size, cs, by simp [add_plain], h6, h7, h8, fun j hj => ?_, by rw [List.getElem_drop, List.getElem_take]; exact h10⟩
    rw [← h9 j hj]
    congr 2
    rw [Nat.add_mul]; omega

theorem elems_bytes_eq' {F : Nat → Prop} {w : World} {xs : List Value} {l : List UInt8} (h : Elems eByte F w xs l) : xs = l.map fun b => Value.int .u8 (b.toNat : Int) := by
  have hl : xs.length = l.length := by have := h.length; simpa [eByte] using this
  apply List.ext_getElem (by simpa using hl)
  intro i h1 h2
  have h3 := h.elem i (by simpa using h2)
  simp only [eByte, Nat.mul_one] at h3
  rw [List.drop_eq_getElem_cons h1] at h3
  simp only [List.take_succ_cons, List.take_zero, List.cons.injEq, and_true] at h3
  rw [List.getElem_map]; exact h3

section
variable {C : Cx} {S : (Nat → Prop) → World → World → Prop} {H : Nat → Prop} {env : Env} {loc : List Ent} {dst : Option Tmp} {ty : TypeId} {pos : String} {af : Array Edge} {g : Option (Nat × Bool)}

theorem run_bound {P : Program} {k : IntKind} {i y : Nat} {code : BoundsCode} {w : World} (h : i ≤ y) : (Instr.sliceBound (.int k i) y code).run P w = .ok i w := by
  have : (i : Int) ≤ (y : Int) := by omega
  simp [Instr.sliceBound, asIntOf, h, go_sem]

/-- x[lo:hi] of a slice. -/
theorem WT_slc {α : Type} {E : Enc α} {l : List α} {t e : TypeId} {x y z : Operand} {k k2 : IntKind} {a1 a2 : Int} {lo hi bt : Nat} {zv : Value} (hx : ev env x = some (isl E l)) (hy : ev env y = some (exI k a1)) (hz : ev env z = some (exI k2 a2)) [e1 : Nt a1 lo] [e2 : Nt a2 hi] (ht : C.P.underlying t = some (.slice e)) [hT : TI C.P e E.size bt zv] (h1 : lo ≤ hi := by first | omega | (simp; done) | (simp; omega)) (h2 : hi ≤ l.length := by first | omega | (simp; done) | (simp; omega)) :
    WT C S ⟨dst, .slice t x (some y) (some z) none, ty, pos, af, g⟩ (isl E ((l.take hi).drop lo)) env loc := by
  constructor
  intro F a w hR
  obtain ⟨ti, hi', hsz, _, _⟩ := hT.out
  obtain ⟨rfl⟩ := e1; obtain ⟨rfl⟩ := e2
  obtain ⟨ao, n, c, hv, hs⟩ := ev_eval hR hx
  have hvy : a.eval y = .int k lo := ev_eval hR hy
  have hvz : a.eval z = .int k2 hi := ev_eval hR hz
  have hn := hs.length
  have hc := hs.cap
  refine ⟨_, ⟨_, _, _, rfl, Sl.sub hs lo hi c h1 (by omega) (by omega) (Nat.le_refl _)⟩, fun _ _ => ?_⟩
  generalize a.eval = ρ at hv hvy hvz ⊢
  simp [execOp, hv, hvy, hvz, Instr.sliceAt, run_und ht, Instr.slice, Instr.sliceBounds, run_bound (show hi ≤ c by omega), run_siz hi', hsz, go_sem]
  intro hh; omega
theorem WT_slcl {α : Type} {E : Enc α} {l : List α} {t e : TypeId} {x y : Operand} {k : IntKind} {a1 : Int} {lo bt : Nat} {zv : Value} (hx : ev env x = some (isl E l)) (hy : ev env y = some (exI k a1)) [e1 : Nt a1 lo] (ht : C.P.underlying t = some (.slice e)) [hT : TI C.P e E.size bt zv] (h1 : lo ≤ l.length := by first | omega | (simp; done) | (simp; omega)) :
    WT C S ⟨dst, .slice t x (some y) none none, ty, pos, af, g⟩ (isl E (l.drop lo)) env loc := by
  constructor
  intro F a w hR
  obtain ⟨ti, hi', hsz, _, _⟩ := hT.out
  obtain ⟨rfl⟩ := e1
  obtain ⟨ao, n, c, hv, hs⟩ := ev_eval hR hx
  have hvy : a.eval y = .int k lo := ev_eval hR hy
  have hn := hs.length
  have hc := hs.cap
  have h := Sl.sub hs lo n c (by omega) (Nat.le_refl _) hc (Nat.le_refl _)
  rw [List.take_of_length_le (by omega)] at h
  refine ⟨_, ⟨_, _, _, rfl, h⟩, fun _ _ => ?_⟩
  generalize a.eval = ρ at hv hvy ⊢
  simp [execOp, hv, hvy, Instr.sliceAt, run_und ht, Instr.slice, Instr.sliceBounds, run_bound (show lo ≤ n by omega), run_siz hi', hsz, go_sem]
theorem WT_slch {α : Type} {E : Enc α} {l : List α} {t e : TypeId} {x z : Operand} {k2 : IntKind} {a2 : Int} {hi bt : Nat} {zv : Value} (hx : ev env x = some (isl E l)) (hz : ev env z = some (exI k2 a2)) [e2 : Nt a2 hi] (ht : C.P.underlying t = some (.slice e)) [hT : TI C.P e E.size bt zv] (h2 : hi ≤ l.length := by first | omega | (simp; done) | (simp; omega)) :
    WT C S ⟨dst, .slice t x none (some z) none, ty, pos, af, g⟩ (isl E (l.take hi)) env loc := by
  constructor
  intro F a w hR
  obtain ⟨ti, hi', hsz, _, _⟩ := hT.out
  obtain ⟨rfl⟩ := e2
  obtain ⟨ao, n, c, hv, hs⟩ := ev_eval hR hx
  have hvz : a.eval z = .int k2 hi := ev_eval hR hz
  have hn := hs.length
  have hc := hs.cap
  have h := Sl.sub hs 0 hi c (by omega) (by omega) (by omega) (Nat.le_refl _)
  rw [List.drop_zero] at h
  refine ⟨_, ⟨_, _, _, rfl, h⟩, fun _ _ => ?_⟩
  generalize a.eval = ρ at hv hvz ⊢
  simp [execOp, hv, hvz, Instr.sliceAt, run_und ht, Instr.slice, Instr.sliceBounds, run_bound (show hi ≤ c by omega), run_siz hi', hsz, go_sem]

/-- A part of a row of one's own. -/
theorem WT_slco {b off n c : Nat} {t e : TypeId} {x : Operand} {y z : Option Operand} {lo hi sz bt : Nat} {zv : Value} (hx : ev env x = some (ex (.slice (some ⟨b, off, none⟩) n c))) (hy : match y with | some o => ∃ k m, ev env o = some (exI k m) ∧ m = (lo : Int) | none => lo = 0) (hz : match z with | some o => ∃ k m, ev env o = some (exI k m) ∧ m = (hi : Int) | none => hi = n) (ht : C.P.underlying t = some (.slice e)) [hT : TI C.P e sz bt zv] (h1 : lo ≤ hi := by first | omega | (simp; done) | (simp; omega)) (h2 : hi ≤ c := by first | omega | (simp; done) | (simp; omega)) (h3 : lo < c := by first | omega | (simp; done) | (simp; omega)) (h4 : n ≤ c := by first | omega | (simp; done) | (simp; omega)) :
    WT C S ⟨dst, .slice t x y z none, ty, pos, af, g⟩ (ex (.slice (some ⟨b, off + lo * sz, none⟩) (hi - lo) (c - lo))) env loc := by
  constructor
  intro F a w hR
  obtain ⟨ti, hi', hsz, _, _⟩ := hT.out
  have hv : a.eval x = .slice (some ⟨b, off, none⟩) n c := ev_eval hR hx
  refine ⟨_, rfl, fun _ _ => ?_⟩
  have h5 : ¬ c = lo := by omega
  cases y with
  | none =>
    subst hy
    cases z with
    | none => subst hz; generalize a.eval = ρ at hv ⊢; simp [execOp, hv, Instr.sliceAt, run_und ht, Instr.slice, Instr.sliceBounds, run_siz hi', hsz, go_sem]
    | some z =>
      obtain ⟨k, _, hz, rfl⟩ := hz
      have hvz : a.eval z = .int k hi := ev_eval hR hz
      generalize a.eval = ρ at hv hvz ⊢
      simp [execOp, hv, hvz, Instr.sliceAt, run_und ht, Instr.slice, Instr.sliceBounds, run_bound h2, run_siz hi', hsz, go_sem]
  | some y =>
    obtain ⟨k, _, hy, rfl⟩ := hy
    have hvy : a.eval y = .int k lo := ev_eval hR hy
    cases z with
    | none => subst hz; generalize a.eval = ρ at hv hvy ⊢; simp [execOp, hv, hvy, Instr.sliceAt, run_und ht, Instr.slice, Instr.sliceBounds, run_bound h1, run_siz hi', hsz, h5, add_plain, go_sem]
    | some z =>
      obtain ⟨k2, _, hz, rfl⟩ := hz
      have hvz : a.eval z = .int k2 hi := ev_eval hR hz
      generalize a.eval = ρ at hv hvy hvz ⊢
      simp [execOp, hv, hvy, hvz, Instr.sliceAt, run_und ht, Instr.slice, Instr.sliceBounds, run_bound h2, run_siz hi', hsz, h5, add_plain, go_sem]
      intro hh; omega

/-- A part of an array of one's own. -/
theorem WT_slca {b off n : Nat} {t e : TypeId} {x : Operand} {y z : Option Operand} {lo hi sz bt : Nat} {zv : Value} (hx : ev env x = some (ex (.pointer (some ⟨b, off, none⟩)))) (hy : match y with | some o => ∃ k m, ev env o = some (exI k m) ∧ m = (lo : Int) | none => lo = 0) (hz : match z with | some o => ∃ k m, ev env o = some (exI k m) ∧ m = (hi : Int) | none => hi = n) (ht : C.P.underlying t = some (.array n e)) [hT : TI C.P e sz bt zv] (h1 : lo ≤ hi := by first | omega | (simp; done) | (simp; omega)) (h2 : hi ≤ n := by first | omega | (simp; done) | (simp; omega)) (h3 : lo < n := by first | omega | (simp; done) | (simp; omega)) :
    WT C S ⟨dst, .slice t x y z none, ty, pos, af, g⟩ (ex (.slice (some ⟨b, off + lo * sz, none⟩) (hi - lo) (n - lo))) env loc := by
  constructor
  intro F a w hR
  obtain ⟨ti, hi', hsz, _, _⟩ := hT.out
  have hv : a.eval x = .pointer (some ⟨b, off, none⟩) := ev_eval hR hx
  refine ⟨_, rfl, fun _ _ => ?_⟩
  have h5 : ¬ n = lo := by omega
  cases y with
  | none =>
    subst hy
    cases z with
    | none => subst hz; generalize a.eval = ρ at hv ⊢; simp [execOp, hv, Instr.sliceAt, Instr.sureAddr, run_und ht, Instr.sliceBounds, run_siz hi', hsz, go_sem]
    | some z =>
      obtain ⟨k, _, hz, rfl⟩ := hz
      have hvz : a.eval z = .int k hi := ev_eval hR hz
      generalize a.eval = ρ at hv hvz ⊢
      simp [execOp, hv, hvz, Instr.sliceAt, Instr.sureAddr, run_und ht, Instr.sliceBounds, run_bound h2, run_siz hi', hsz, go_sem]
  | some y =>
    obtain ⟨k, _, hy, rfl⟩ := hy
    have hvy : a.eval y = .int k lo := ev_eval hR hy
    cases z with
    | none => subst hz; generalize a.eval = ρ at hv hvy ⊢; simp [execOp, hv, hvy, Instr.sliceAt, Instr.sureAddr, run_und ht, Instr.sliceBounds, run_bound h1, run_siz hi', hsz, h5, add_plain, go_sem]
    | some z =>
      obtain ⟨k2, _, hz, rfl⟩ := hz
      have hvz : a.eval z = .int k2 hi := ev_eval hR hz
      generalize a.eval = ρ at hv hvy hvz ⊢
      simp [execOp, hv, hvy, hvz, Instr.sliceAt, Instr.sureAddr, run_und ht, Instr.sliceBounds, run_bound h2, run_siz hi', hsz, h5, add_plain, go_sem]
      intro hh; omega

/-- An element of an array of one's own. -/
theorem WT_indexa {b off n : Nat} {t e : TypeId} {x y : Operand} {k : IntKind} {m : Int} {i sz bt : Nat} {z : Value} (hx : ev env x = some (ex (.pointer (some ⟨b, off, none⟩)))) (hy : ev env y = some (exI k m)) [hm : Nt m i] (ht : C.P.underlying t = some (.array n e)) [hT : TI C.P e sz bt z] (hl : i < n := by first | omega | (simp; done) | (simp; omega)) :
    WT C S ⟨dst, .indexAddr t x y, ty, pos, af, g⟩ (ex (.pointer (some ⟨b, off + i * sz, none⟩))) env loc := by
  constructor
  intro F a w hR
  obtain ⟨ti, hi, rfl, _, _⟩ := hT.out
  obtain ⟨rfl⟩ := hm
  have hv : a.eval x = .pointer (some ⟨b, off, none⟩) := ev_eval hR hx
  have hvy : a.eval y = .int k i := ev_eval hR hy
  refine ⟨_, rfl, fun _ _ => ?_⟩
  generalize a.eval = ρ at hv hvy ⊢
  simp [execOp, hv, hvy, Instr.indexAt, Instr.sureAddr, asIntOf, run_und ht, hl, add_plain, run_siz hi, go_sem]

theorem WT_indexaz {b off n : Nat} {t e : TypeId} {x y : Operand} {k : IntKind} {m : Int} {sz bt : Nat} {z : Value} (hx : ev env x = some (ex (.pointer (some ⟨b, off, none⟩)))) (hy : ev env y = some (exI k m)) (ht : C.P.underlying t = some (.array n e)) [hT : TI C.P e sz bt z] (hm : 0 ≤ m := by first | omega | (simp; done) | (simp; omega)) (hl : m.toNat < n := by first | omega | (simp; done) | (simp; omega)) :
    WT C S ⟨dst, .indexAddr t x y, ty, pos, af, g⟩ (ex (.pointer (some ⟨b, off + m.toNat * sz, none⟩))) env loc := WT_indexa (hm := ⟨by omega⟩) hx hy ht hl

/-! ### Bits -/

theorem byte_bits {k : IntKind} {b : UInt8} (h : Nat.ble 8 k.bits = true) : b.toNat < 2 ^ k.bits := by
  have h1 := b.toNat_lt
  have h2 : 2 ^ 8 ≤ 2 ^ k.bits := Nat.pow_le_pow_right (by decide) (Nat.le_of_ble_eq_true h)
  omega

theorem run_bits {op : BinOp} {P : Program} {t u : TypeId} {x y : Operand} {k : IntKind} {m n : Int} {a : Act} (hop : op = .and ∨ op = .or ∨ op = .xor) (hx : a.eval x = .int k m) (hy : a.eval y = .int k n) (w : World) :
    (execOp a.eval ⟨dst, .binOp op t x y u, ty, pos, af, g⟩).run P w = (do pure (.value (← Op.intBits op k m n)) : Sem Next).run P w := by
  rw [run_bin_int op a hx hy]
  rcases hop with rfl | rfl | rfl <;> simp [binOp]

theorem wrap_uns {k : IntKind} (hk : k.signed = false) {r : Nat} (h : r < 2 ^ k.bits) : k.wrap (r : Int) = (r : Int) := by
  unfold IntKind.wrap
  rw [hk]
  have h2 : (r : Int) < (2 : Int) ^ k.bits := by exact_mod_cast h
  simp only [Bool.false_and, Bool.false_eq_true, if_false]
  exact Int.emod_eq_of_lt (by omega) h2

theorem bits_nat {k : IntKind} {a : Nat} (h : a < 2 ^ k.bits) : (BitVec.ofInt k.bits (a : Int)).toNat = a := by
  rw [BitVec.toNat_ofInt]
  have h2 : (a : Int) < (2 : Int) ^ k.bits := by exact_mod_cast h
  have : ((a : Int) % ((2 ^ k.bits : Nat) : Int)) = a := Int.emod_eq_of_lt (by omega) (by exact_mod_cast h)
  rw [this]; simp

theorem WT_and {x y : Operand} {t u : TypeId} {k : IntKind} {m n : Int} {p q : Nat} (hx : ev env x = some (exI k m)) (hy : ev env y = some (exI k n)) [hm : Nt m p] [hn : Nt n q] (hk : k.signed = false := by rfl) (h1 : p < 2 ^ k.bits := by first | decide | exact byte_bits (by decide) | exact Nat.mod_lt _ (by decide) | assumption | (simp only [IntKind.bits]; omega) | omega) (h2 : q < 2 ^ k.bits := by first | decide | exact byte_bits (by decide) | exact Nat.mod_lt _ (by decide) | assumption | (simp only [IntKind.bits]; omega) | omega) : WT C S ⟨dst, .binOp .and t x y u, ty, pos, af, g⟩ (exI k ((p &&& q : Nat) : Int)) env loc := by
  obtain ⟨rfl⟩ := hm; obtain ⟨rfl⟩ := hn
  exact ⟨fun _ a _ hR => ⟨_, rfl, fun w' _ => by
    rw [run_bits (.inl rfl) (ev_eval hR hx) (ev_eval hR hy)]
    simp only [Op.intBits, BitVec.toNat_and, bits_nat h1, bits_nat h2, wrap_uns hk (Nat.and_lt_two_pow p h2)]
    rfl⟩⟩
theorem WT_or {x y : Operand} {t u : TypeId} {k : IntKind} {m n : Int} {p q : Nat} (hx : ev env x = some (exI k m)) (hy : ev env y = some (exI k n)) [hm : Nt m p] [hn : Nt n q] (hk : k.signed = false := by rfl) (h1 : p < 2 ^ k.bits := by first | decide | exact byte_bits (by decide) | exact Nat.mod_lt _ (by decide) | assumption | (simp only [IntKind.bits]; omega) | omega) (h2 : q < 2 ^ k.bits := by first | decide | exact byte_bits (by decide) | exact Nat.mod_lt _ (by decide) | assumption | (simp only [IntKind.bits]; omega) | omega) : WT C S ⟨dst, .binOp .or t x y u, ty, pos, af, g⟩ (exI k ((p ||| q : Nat) : Int)) env loc := by
  obtain ⟨rfl⟩ := hm; obtain ⟨rfl⟩ := hn
  exact ⟨fun _ a _ hR => ⟨_, rfl, fun w' _ => by
    rw [run_bits (.inr (.inl rfl)) (ev_eval hR hx) (ev_eval hR hy)]
    simp only [Op.intBits, BitVec.toNat_or, bits_nat h1, bits_nat h2, wrap_uns hk (Nat.or_lt_two_pow h1 h2)]
    rfl⟩⟩
theorem WT_xor {x y : Operand} {t u : TypeId} {k : IntKind} {m n : Int} {p q : Nat} (hx : ev env x = some (exI k m)) (hy : ev env y = some (exI k n)) [hm : Nt m p] [hn : Nt n q] (hk : k.signed = false := by rfl) (h1 : p < 2 ^ k.bits := by first | decide | exact byte_bits (by decide) | exact Nat.mod_lt _ (by decide) | assumption | (simp only [IntKind.bits]; omega) | omega) (h2 : q < 2 ^ k.bits := by first | decide | exact byte_bits (by decide) | exact Nat.mod_lt _ (by decide) | assumption | (simp only [IntKind.bits]; omega) | omega) : WT C S ⟨dst, .binOp .xor t x y u, ty, pos, af, g⟩ (exI k ((p ^^^ q : Nat) : Int)) env loc := by
  obtain ⟨rfl⟩ := hm; obtain ⟨rfl⟩ := hn
  exact ⟨fun _ a _ hR => ⟨_, rfl, fun w' _ => by
    rw [run_bits (.inr (.inr rfl)) (ev_eval hR hx) (ev_eval hR hy)]
    simp only [Op.intBits, BitVec.toNat_xor, bits_nat h1, bits_nat h2, wrap_uns hk (Nat.xor_lt_two_pow h1 h2)]
    rfl⟩⟩
/-- ^x -/
theorem WT_com {x : Operand} {t : TypeId} {k : IntKind} {m : Int} {p : Nat} (hx : ev env x = some (exI k m)) [hm : Nt m p] (hk : k.signed = false := by rfl) (h1 : p < 2 ^ k.bits := by first | decide | exact byte_bits (by decide) | exact Nat.mod_lt _ (by decide) | assumption | (simp only [IntKind.bits]; omega) | omega) : WT C S ⟨dst, .unOp .xor t x, ty, pos, af, g⟩ (exI k (((2 ^ k.bits - 1) ^^^ p : Nat) : Int)) env loc := by
  obtain ⟨rfl⟩ := hm
  constructor
  intro F a w hR
  have hv : a.eval x = .int k p := ev_eval hR hx
  refine ⟨_, rfl, fun w' _ => ?_⟩
  generalize a.eval = ρ at hv ⊢
  have h2 : 2 ^ k.bits - 1 < 2 ^ k.bits := by have := Nat.two_pow_pos k.bits; omega
  have hmax : k.max = ((2 ^ k.bits - 1 : Nat) : Int) := by
    unfold IntKind.max; rw [hk]
    have := Nat.two_pow_pos k.bits
    simp only [Bool.false_eq_true, if_false]
    rw [Int.ofNat_sub (by omega)]; simp
  simp only [execOp, hv, Op.unary, hk, Bool.false_eq_true, if_false, Op.intBits, hmax, BitVec.toNat_xor, bits_nat h1, bits_nat h2, wrap_uns hk (Nat.xor_lt_two_pow h2 h1)]
  rfl

theorem run_shift {op : BinOp} {P : Program} {t u : TypeId} {x y : Operand} {k k2 : IntKind} {m n : Int} {a : Act} (hop : op = .shl ∨ op = .shr) (hx : a.eval x = .int k m) (hy : a.eval y = .int k2 n) (w : World) :
    (execOp a.eval ⟨dst, .binOp op t x y u, ty, pos, af, g⟩).run P w = (do pure (.value (← Op.shift op k m k2 n)) : Sem Next).run P w := by
  generalize a.eval = ρ at hx hy ⊢
  rcases hop with rfl | rfl <;> simp [execOp, hx, hy, eqGuard, binOp, go_sem]

theorem WT_shr {x y : Operand} {t u : TypeId} {k k2 : IntKind} {m n : Int} {p q : Nat} (hx : ev env x = some (exI k m)) (hy : ev env y = some (exI k2 n)) [hm : Nt m p] [hn : Nt n q] (hq : q ≤ k.bits := by first | decide | exact byte_bits (by decide) | exact Nat.mod_lt _ (by decide) | assumption | (simp only [IntKind.bits]; omega) | omega) : WT C S ⟨dst, .binOp .shr t x y u, ty, pos, af, g⟩ (exI k ((p / 2 ^ q : Nat) : Int)) env loc := by
  obtain ⟨rfl⟩ := hm; obtain ⟨rfl⟩ := hn
  exact ⟨fun _ a _ hR => ⟨_, rfl, fun w' _ => by
    rw [run_shift (.inr rfl) (ev_eval hR hx) (ev_eval hR hy)]
    have h1 : ¬ ((q : Int) < 0) := by omega
    have h2 : min q k.bits = q := by omega
    have h3 : (p : Int).fdiv (2 ^ q) = ((p / 2 ^ q : Nat) : Int) := by
      rw [Int.fdiv_eq_ediv_of_nonneg _ (by exact_mod_cast Nat.zero_le _)]; simp
    simp only [Op.shift, h1, if_false, Int.toNat_natCast, h2, h3]
    rfl⟩⟩
theorem WT_shl {x y : Operand} {t u : TypeId} {k k2 : IntKind} {m n : Int} {p q : Nat} (hx : ev env x = some (exI k m)) (hy : ev env y = some (exI k2 n)) [hm : Nt m p] [hn : Nt n q] (hq : q ≤ k.bits := by first | decide | exact byte_bits (by decide) | exact Nat.mod_lt _ (by decide) | assumption | (simp only [IntKind.bits]; omega) | omega) (hk : k.signed = false := by rfl) : WT C S ⟨dst, .binOp .shl t x y u, ty, pos, af, g⟩ (exI k ((p * 2 ^ q % 2 ^ k.bits : Nat) : Int)) env loc := by
  obtain ⟨rfl⟩ := hm; obtain ⟨rfl⟩ := hn
  exact ⟨fun _ a _ hR => ⟨_, rfl, fun w' _ => by
    rw [run_shift (.inl rfl) (ev_eval hR hx) (ev_eval hR hy)]
    have h1 : ¬ ((q : Int) < 0) := by omega
    have h2 : min q k.bits = q := by omega
    have h3 : k.wrap ((p : Int) * 2 ^ q) = ((p * 2 ^ q % 2 ^ k.bits : Nat) : Int) := by
      unfold IntKind.wrap; rw [hk]; simp
    simp only [Op.shift, h1, if_false, Int.toNat_natCast, h2, h3]
    rfl⟩⟩
theorem WT_mulu {x y : Operand} {t u : TypeId} {k : IntKind} {m n : Int} {p q : Nat} (hx : ev env x = some (exI k m)) (hy : ev env y = some (exI k n)) [hm : Nt m p] [hn : Nt n q] (hk : k.signed = false := by rfl) : WT C S ⟨dst, .binOp .mul t x y u, ty, pos, af, g⟩ (exI k ((p * q % 2 ^ k.bits : Nat) : Int)) env loc := by
  obtain ⟨rfl⟩ := hm; obtain ⟨rfl⟩ := hn
  exact ⟨fun _ a _ hR => ⟨_, rfl, fun w' _ => by
    rw [run_bin_int _ _ (ev_eval hR hx) (ev_eval hR hy)]
    have h3 : k.wrap ((p : Int) * (q : Int)) = ((p * q % 2 ^ k.bits : Nat) : Int) := by
      unfold IntKind.wrap; rw [hk]; simp
    simp only [binOp, Op.intArith, ne_eq, not_true_eq_false, if_false, h3]
    rfl⟩⟩
theorem WT_addu {x y : Operand} {t u : TypeId} {k : IntKind} {m n : Int} {p q : Nat} (hx : ev env x = some (exI k m)) (hy : ev env y = some (exI k n)) [hm : Nt m p] [hn : Nt n q] (hk : k.signed = false := by rfl) : WT C S ⟨dst, .binOp .add t x y u, ty, pos, af, g⟩ (exI k (((p + q) % 2 ^ k.bits : Nat) : Int)) env loc := by
  obtain ⟨rfl⟩ := hm; obtain ⟨rfl⟩ := hn
  exact ⟨fun _ a _ hR => ⟨_, rfl, fun w' _ => by
    rw [run_bin_int _ _ (ev_eval hR hx) (ev_eval hR hy)]
    have h3 : k.wrap ((p : Int) + (q : Int)) = (((p + q) % 2 ^ k.bits : Nat) : Int) := by
      unfold IntKind.wrap; rw [hk]; simp
    simp only [binOp, Op.intArith, ne_eq, not_true_eq_false, if_false, h3]
    rfl⟩⟩
/-- A number to a kind without sign. -/
theorem WT_convu {s t : TypeId} {x : Operand} {k k' : IntKind} {m : Int} {ds : TypeDesc} {p : Nat} (h : ev env x = some (exI k m)) [hm : Nt m p] (hs : C.P.underlying s = some ds) (ht : C.P.underlying t = some (.int k')) (hk : k'.signed = false := by rfl) : WT C S ⟨dst, .convert s t x, ty, pos, af, g⟩ (exI k' ((p % 2 ^ k'.bits : Nat) : Int)) env loc := by
  obtain ⟨rfl⟩ := hm
  have h3 : k'.wrap (p : Int) = ((p % 2 ^ k'.bits : Nat) : Int) := by
    unfold IntKind.wrap; rw [hk]; simp
  rw [← h3]
  exact WT_convw h hs ht
/-- A number to a byte. -/
theorem WT_convu8 {s t : TypeId} {x : Operand} {k : IntKind} {m : Int} {ds : TypeDesc} {p : Nat} (h : ev env x = some (exI k m)) [hm : Nt m p] (hs : C.P.underlying s = some ds) (ht : C.P.underlying t = some (.int .u8)) : WT C S ⟨dst, .convert s t x, ty, pos, af, g⟩ (exI .u8 ((UInt8.ofNat p).toNat : Int)) env loc := by
  have h1 := WT_convu (C := C) (S := S) (env := env) (loc := loc) (dst := dst) (ty := ty) (pos := pos) (af := af) (g := g) h hs ht rfl
  rwa [show (UInt8.ofNat p).toNat = p % 2 ^ IntKind.u8.bits from rfl]
theorem WT_rem {x y : Operand} {t u : TypeId} {k : IntKind} {m n : Int} {p q : Nat} (hx : ev env x = some (exI k m)) (hy : ev env y = some (exI k n)) [hm : Nt m p] [hn : Nt n q] (h0 : 0 < q := by first | omega | (simp; done) | (simp; omega)) : WT C S ⟨dst, .binOp .rem t x y u, ty, pos, af, g⟩ (exI k ((p % q : Nat) : Int)) env loc := by
  obtain ⟨rfl⟩ := hm; obtain ⟨rfl⟩ := hn
  exact ⟨fun _ a _ hR => ⟨_, rfl, fun w' _ => by
    rw [run_bin_int _ _ (ev_eval hR hx) (ev_eval hR hy)]
    have h1 : ¬ ((q : Int) = 0) := by omega
    have h3 : (p : Int).tmod (q : Int) = ((p % q : Nat) : Int) := by simp [Int.tmod]
    simp only [binOp, Op.intDiv, ne_eq, not_true_eq_false, if_false, h1, h3]
    rfl⟩⟩
theorem WT_quo {x y : Operand} {t u : TypeId} {k : IntKind} {m n : Int} {p q : Nat} (hx : ev env x = some (exI k m)) (hy : ev env y = some (exI k n)) [hm : Nt m p] [hn : Nt n q] (h0 : 0 < q := by first | omega | (simp; done) | (simp; omega)) (hr : k.wrap ((p / q : Nat) : Int) = ((p / q : Nat) : Int) := by first | exact wrap_uns rfl (by simp only [IntKind.bits]; omega) | exact IntWalk.i64_in _ (by omega) | (simp [IntKind.wrap, IntKind.bits, IntKind.signed]; done) | (simp [IntKind.wrap, IntKind.bits, IntKind.signed]; omega)) : WT C S ⟨dst, .binOp .quo t x y u, ty, pos, af, g⟩ (exI k ((p / q : Nat) : Int)) env loc := by
  obtain ⟨rfl⟩ := hm; obtain ⟨rfl⟩ := hn
  exact ⟨fun _ a _ hR => ⟨_, rfl, fun w' _ => by
    rw [run_bin_int _ _ (ev_eval hR hx) (ev_eval hR hy)]
    have h1 : ¬ ((q : Int) = 0) := by omega
    have h3 : (p : Int).tdiv (q : Int) = ((p / q : Nat) : Int) := by simp [Int.tdiv]
    simp only [binOp, Op.intDiv, ne_eq, not_true_eq_false, if_false, h1, h3, hr]
    rfl⟩⟩

theorem WT_beq {x y : Operand} {t u : TypeId} {p q : Bool} (hx : ev env x = some (exB p)) (hy : ev env y = some (exB q)) (ht : C.P.underlying t = some .bool) : WT C S ⟨dst, .binOp .eql t x y u, ty, pos, af, g⟩ (exB (p == q)) env loc := by
  constructor
  intro F a w hR
  have h1 : a.eval x = .bool p := ev_eval hR hx
  have h2 : a.eval y = .bool q := ev_eval hR hy
  refine ⟨_, rfl, fun w' _ => ?_⟩
  generalize a.eval = ρ at h1 h2 ⊢
  have hb := run_eql_bool (P := C.P) w' t p q ht
  simp only [execOp, h1, h2, eqGuard]
  generalize binOp .eql t (.bool p) (.bool q) = s at hb ⊢
  simp [hb, go_sem]
theorem WT_bne {x y : Operand} {t u : TypeId} {p q : Bool} (hx : ev env x = some (exB p)) (hy : ev env y = some (exB q)) (ht : C.P.underlying t = some .bool) : WT C S ⟨dst, .binOp .neq t x y u, ty, pos, af, g⟩ (exB (!(p == q))) env loc := by
  constructor
  intro F a w hR
  have h1 : a.eval x = .bool p := ev_eval hR hx
  have h2 : a.eval y = .bool q := ev_eval hR hy
  refine ⟨_, rfl, fun w' _ => ?_⟩
  generalize a.eval = ρ at h1 h2 ⊢
  have hb := run_neq_bool (P := C.P) w' t p q ht
  simp only [execOp, h1, h2, eqGuard]
  generalize binOp .neq t (.bool p) (.bool q) = s at hb ⊢
  simp [hb, go_sem]

theorem run_bin_str {P : Program} {t u : TypeId} {x y : Operand} {p q : ByteArray} {a : Act} (op : BinOp) (hx : a.eval x = .string p) (hy : a.eval y = .string q) (w : World) :
    (execOp a.eval ⟨dst, .binOp op t x y u, ty, pos, af, g⟩).run P w = (do pure (.value (← binOp op t (.string p) (.string q))) : Sem Next).run P w := by
  simp only [execOp, hx, hy, eqGuard]
  cases op <;> rfl
theorem ba_eq (p q : ByteArray) : (p.toList == q.toList) = decide (p = q) := by
  rw [Bool.eq_iff_iff]; simp only [beq_iff_eq, decide_eq_true_eq]
  refine ⟨fun h => ?_, fun h => by rw [h]⟩
  rw [ByteArray.toList_eq, ByteArray.toList_eq] at h
  cases p; cases q; simpa using h
theorem WT_seq {x y : Operand} {t u : TypeId} {p q : ByteArray} (hx : ev env x = some (ex (.string p))) (hy : ev env y = some (ex (.string q))) : WT C S ⟨dst, .binOp .eql t x y u, ty, pos, af, g⟩ (exB (decide (p = q))) env loc :=
  ⟨fun _ a _ hR => ⟨_, rfl, fun w' _ => by rw [run_bin_str _ (ev_eval hR hx) (ev_eval hR hy), ← ba_eq]; rfl⟩⟩
theorem WT_sne {x y : Operand} {t u : TypeId} {p q : ByteArray} (hx : ev env x = some (ex (.string p))) (hy : ev env y = some (ex (.string q))) : WT C S ⟨dst, .binOp .neq t x y u, ty, pos, af, g⟩ (exB (!decide (p = q))) env loc :=
  ⟨fun _ a _ hR => ⟨_, rfl, fun w' _ => by rw [run_bin_str _ (ev_eval hR hx) (ev_eval hR hy), ← ba_eq]; rfl⟩⟩
theorem WT_cat {x y : Operand} {t u : TypeId} {p q : ByteArray} (hx : ev env x = some (ex (.string p))) (hy : ev env y = some (ex (.string q))) (hl : p.size + q.size ≤ 9223372036854775807 := by first | omega | (simp; omega)) : WT C S ⟨dst, .binOp .add t x y u, ty, pos, af, g⟩ (ex (.string (p ++ q))) env loc :=
  ⟨fun _ a _ hR => ⟨_, rfl, fun w' _ => by
    rw [run_bin_str _ (ev_eval hR hx) (ev_eval hR hy)]
    have h1 : ¬ (((p.size + q.size : Nat) : Int) > IntKind.i64.max) := by rw [show IntKind.i64.max = 9223372036854775807 from rfl]; omega
    simp only [binOp, Op.stringOp, h1, if_false]
    rfl⟩⟩
theorem WT_s2s {s t : TypeId} {x : Operand} {p : ByteArray} {ds : TypeDesc} (h : ev env x = some (ex (.string p))) (hs : C.P.underlying s = some ds) (ht : C.P.underlying t = some .string) : WT C S ⟨dst, .convert s t x, ty, pos, af, g⟩ (ex (.string p)) env loc := by
  constructor
  intro F a w hR
  have hv : a.eval x = .string p := ev_eval hR h
  refine ⟨_, rfl, fun w' _ => ?_⟩
  generalize a.eval = ρ at hv ⊢
  simp only [execOp, hv]
  simp [convert, go_sem, run_und hs, run_und ht]

/-- string(b). -/
theorem WT_b2s {s t e : TypeId} {x : Operand} {l : List UInt8} (h : ev env x = some (isl eByte l)) (hs : C.P.underlying s = some (.slice e)) (he : C.P.underlying e = some (.int .u8)) (ht : C.P.underlying t = some .string) : WT C (Hold H) ⟨dst, .convert s t x, ty, pos, af, g⟩ (ex (.string ⟨l.toArray⟩)) env loc := by
  constructor
  intro F a w hR
  obtain ⟨ao, n, c, hv, hsl⟩ := ev_eval hR h
  refine ⟨_, rfl, fun w' hw => ?_⟩
  have hsl' : Sl eByte F w' ao n c l := hsl.mono fun b hb hlt => ⟨hb, hw b hlt (.inl hb)⟩
  have hrun : (convert s t (.slice ao n c)).run C.P w' = .ok (.string ⟨l.toArray⟩) w' := by
    rw [run_convert_bytes_string w' s t e ao n c hs he ht]
    cases ao with
    | none =>
      have h0 := hsl'.none_zero rfl
      have hl : l = [] := List.eq_nil_of_length_eq_zero (by rw [hsl'.length]; exact h0.1)
      subst hl; rfl
    | some ad =>
      obtain ⟨xs, hel, hc⟩ := hsl'.cells (by decide)
      have hx := elems_bytes_eq' hel
      have h1 := run_loadCells_list (P := C.P) w' ad xs (hc ad rfl)
      have h2 : xs.length = n := by rw [hel.length, hsl'.length]; simp [eByte]
      rw [h2, hx] at h1
      have h3 := run_bytesToString (P := C.P) w' ad n c (l.map fun b => (b.toNat : Int)) (by rw [h1]; simp)
      rw [h3]
      congr 2
      have key : ∀ (l : List UInt8) (s : ByteArray), (l.map fun b => (b.toNat : Int)).foldl (fun r n => r.push (UInt8.ofNat n.toNat)) s = ⟨s.data ++ l.toArray⟩ := by
        intro l
        induction l with
        | nil => intro s; simp
        | cons b l ih =>
          intro s
          rw [List.map_cons, List.foldl_cons, ih]
          have : UInt8.ofNat ((b.toNat : Int)).toNat = b := by simp
          rw [this]
          cases s; simp [ByteArray.push]
      rw [key]; congr 1; show (#[] : Array UInt8) ++ l.toArray = l.toArray; simp
  generalize a.eval = ρ at hv ⊢
  simp only [execOp, hv, Sem.run_bind, hrun]
  rfl

theorem WT_mkfunc {fn : Fn} {caps : Array Operand} {vs : List Value} (h : caps.toList.map (ev env) = vs.map (fun v => some (ex v))) : WT C S ⟨dst, .makeFunc fn #[] caps, ty, pos, af, g⟩ (ex (.func fn #[] vs.toArray)) env loc := by
  constructor
  intro F a w hR
  refine ⟨_, rfl, fun w' _ => ?_⟩
  have hv : caps.map a.eval = vs.toArray := by
    have hlen := congrArg List.length h
    simp only [List.length_map] at hlen
    apply Array.ext'
    simp only [Array.toList_map]
    apply List.ext_getElem?
    intro i
    have h1 : (caps.toList.map (ev env))[i]? = (vs.map (fun v => some (ex v)))[i]? := by rw [h]
    rw [List.getElem?_map, List.getElem?_map] at h1
    rw [List.getElem?_map]
    cases h2 : caps.toList[i]? with
    | none =>
      rw [h2] at h1
      cases h3 : vs[i]? with
      | none => rfl
      | some v => rw [h3] at h1; cases h1
    | some x =>
      rw [h2] at h1
      cases h3 : vs[i]? with
      | none => rw [h3] at h1; cases h1
      | some v =>
        rw [h3] at h1
        simp only [Option.map_some, Option.some.injEq] at h1
        have := ev_eval hR h1
        simp only [Option.map_some, Option.some.injEq]
        exact this
  simp [execOp, Instr.makeFunc, hv, go_sem]

end
end Go.Fr

/- Rules of calls that write what they are handed, or read it; copy, make, composite values. No program in sight. -/
namespace Go.Fr
open Go.RowKit Go.Kx

theorem erase_perm {α : Type} : ∀ {l : List α} {k : Nat} {e : α}, l[k]? = some e → l.Perm (e :: l.eraseIdx k)
  | x :: xs, 0, e, h => by simp only [List.getElem?_cons_zero, Option.some.injEq] at h; subst h; exact List.Perm.refl _
  | x :: xs, k + 1, e, h => by
    have ih := erase_perm (l := xs) (k := k) (by simpa using h)
    exact (ih.cons x).trans (List.Perm.swap e x _)

theorem Good.perm {F : Nat → Prop} {l l' : List Ent} {w : World} (h : Good F l w) (hp : l.Perm l') : Good F l' w where
  rel e he := h.rel e (hp.mem_iff.2 he)
  lt e he := h.lt e (hp.mem_iff.2 he)
  disj := (hp.pairwise_iff (fun {_ _} h b hb hb' => h b hb' hb)).1 h.disj

section
variable {C : Cx} {H : Nat → Prop} {l0 : List Ent} {env : Env} {loc : List Ent} {d : Nat} {ty : TypeId} {pos : String} {af : Array Edge} {g : Option (Nat × Bool)} {K : Env → List Ent → Prop}

theorem call_cells {F : Nat → Prop} {a : Act} {w : World} (hR : Rel C F env loc a w) {xs : Array Operand} {args : List SP} (ha : xs.toList.map (ev env) = args.map some) : CellsR F w args (xs.toList.map a.eval) := by
  have hlen := congrArg List.length ha
  simp only [List.length_map] at hlen
  refine ⟨by simpa using hlen, fun i p hp => ?_⟩
  have hi : i < args.length := (List.getElem?_eq_some_iff.1 hp).1
  have h1 : (xs.toList.map (ev env))[i]? = (args.map some)[i]? := by rw [ha]
  rw [List.getElem?_map, List.getElem?_map, hp, List.getElem?_eq_getElem (by omega)] at h1
  simp only [Option.map_some, Option.some.injEq] at h1
  exact ⟨a.eval (xs.toList[i]'(by omega)), by rw [List.getElem?_map, List.getElem?_eq_getElem (by omega)]; rfl, ev_eval hR h1⟩

theorem run_call {P : Program} {f : FuncId} {fn : Func} {c : Code} {xs : Array Operand} {ts : Array TypeId} {dst : Option Nat} {a : Act} (hf : P.funcs[f]? = some fn) (hbody : fn.body = some c) (hname : (fn.name == "runtime.NumGoroutine") = false) (w : World) :
    (execOp a.eval ⟨dst, .call ⟨.value (.func f), xs, ts⟩, ty, pos, af, g⟩).run P w = .ok (.enter f (xs.toList.map a.eval).toArray) w := by
  have he : a.eval (.func f) = .func (.func f) #[] #[] := rfl
  generalize a.eval = ρ at he ⊢
  have hx : xs.map ρ = (xs.toList.map ρ).toArray := by apply Array.ext'; simp
  simp only [execOp, resolve, he, Deferred.ofValue, Sem.run_bind, Sem.run_pure, Result.andThen_ok, invoke, callFunc]
  have hname' : ¬ fn.name = "runtime.NumGoroutine" := by simpa using hname
  simp [go_sem, hf, hname', hbody, hx]

/-- A call of a function value. -/
theorem run_callv {P : Program} {f : FuncId} {fn : Func} {c : Code} {x : Operand} {xs : Array Operand} {ts : Array TypeId} {dst : Option Nat} {a : Act} {vs : List Value} (he : a.eval x = .func (.func f) #[] vs.toArray) (hf : P.funcs[f]? = some fn) (hbody : fn.body = some c) (hname : (fn.name == "runtime.NumGoroutine") = false) (w : World) :
    (execOp a.eval ⟨dst, .call ⟨.value x, xs, ts⟩, ty, pos, af, g⟩).run P w = .ok (.enter f (xs.toList.map a.eval ++ vs).toArray) w := by
  generalize a.eval = ρ at he ⊢
  have hx : xs.map ρ = (xs.toList.map ρ).toArray := by apply Array.ext'; simp
  simp only [execOp, resolve, he, Deferred.ofValue, Sem.run_bind, Sem.run_pure, Result.andThen_ok, invoke, callFunc]
  have hname' : ¬ fn.name = "runtime.NumGoroutine" := by simpa using hname
  simp [go_sem, hf, hname', hbody, hx]

/-- Behind a call that was handed thing number k. -/
theorem Rel.called {F F' : Nat → Prop} {a : Act} {w w' : World} {k : Nat} {e : Ent} {p : SP} {v : Value} {loc' : List Ent} (hR : Rel C F env loc a w) (he : loc[k]? = some e) (hp : p.rel F' w' v) (hG : Good F' (loc' ++ (loc.eraseIdx k ++ C.out)) w') (hch : Ch (fun b => ∃ e' ∈ [e], b ∈ e'.foot) w w') (hgr : ∀ b, F b → b < w.heap.size → F' b)
    (hown : ∀ e' ∈ loc', ∀ b ∈ e'.foot, w.heap.size ≤ b ∨ ∃ e' ∈ [e], b ∈ e'.foot) (hd : Nat.blt d C.N = true) : Rel C F' ((d, p) :: env) (loc' ++ loc.eraseIdx k) (a.put (some d) v) w' := by
  have hmem := List.mem_of_getElem? he
  have hblk : ∀ b, b < w.heap.size → b ∉ e.foot → w'.heap[b]? = w.heap[b]? := fun b hb hn => hch.block b hb (by rintro ⟨e', he', h⟩; simp only [List.mem_singleton] at he'; subst he'; exact hn h)
  refine hR.next (by rw [List.append_assoc]; exact hG) (fun b hb hlt => ⟨hgr b hb hlt, hblk b hlt fun h => (hR.good.lt e (List.mem_append_left _ hmem) b h).2 hb⟩) ?_ ?_ hd hp
  · refine ⟨hch.os.trans hR.ch.os, hch.tape.trans hR.ch.tape, hch.output.trans hR.ch.output, Nat.le_trans hR.ch.size hch.size, fun j hj hx => (hblk j (Nat.lt_of_lt_of_le hj hR.ch.size) fun h => ?_).trans (hR.ch.block j hj hx)⟩
    rcases hR.own e hmem j h with h | h
    · omega
    · exact hx h
  · intro e' he' b hb
    rcases List.mem_append.1 he' with h | h
    · rcases hown e' h b hb with h | ⟨e2, h2, h3⟩
      · exact .inl (Nat.le_trans hR.ch.size h)
      · simp only [List.mem_singleton] at h2; subst h2
        exact hR.own _ hmem b h3
    · exact hR.own e' (List.mem_of_mem_eraseIdx h) b hb

/-- A call that is handed thing number k, to write it. -/
theorem WO_call1 {f : FuncId} {fn : Func} {c : Code} {xs : Array Operand} {ts : Array TypeId} {args : List SP} {R : SP → List Ent → Prop} {k : Nat} {e : Ent} (he : loc[k]? = some e) (hf : C.P.funcs[f]? = some fn) (hbody : fn.body = some c) (hc : FnC C.P f args [e] R) (ha : xs.toList.map (ev env) = args.map some) (hk : ∀ p loc', R p loc' → K ((d, p) :: env) (loc' ++ loc.eraseIdx k)) (hname : (fn.name == "runtime.NumGoroutine") = false := by rfl) (hd : Nat.blt d C.N = true := by rfl) (hH : l0.Sublist (loc.eraseIdx k) := by exact List.nil_sublist _) : WO C (feet l0) ⟨some d, .call ⟨.value (.func f), xs, ts⟩, ty, pos, af, g⟩ K env loc := by
  constructor
  intro F a w hR
  have hperm : (loc ++ C.out).Perm ([e] ++ (loc.eraseIdx k ++ C.out)) := by
    have := (erase_perm he).append_right C.out
    simpa using this
  unfold Oper.wp
  rw [run_call hf hbody hname]
  refine (hc F w _ _ (hR.good.perm hperm) (call_cells hR ha)).mono ?_
  rintro e2 w' ⟨v, F', p, loc', rfl, hRp, hp, hG, hch, hgr, hown⟩
  refine ⟨F', _, _, hR.called he hp hG hch hgr hown hd, hch.size, hgr, fun b hb hF => hch.block b hb ?_, hk p loc' hRp⟩
  rintro ⟨e', he', h⟩
  simp only [List.mem_singleton] at he'; subst he'
  rcases hF with hF | hF
  · exact (hR.good.lt _ (List.mem_append_left _ (List.mem_of_getElem? he)) b h).2 hF
  · exact hR.good.apart he h hH hF

/-- The same, by a function value. -/
theorem WO_callv1 {f : FuncId} {fn : Func} {c : Code} {x : Operand} {vs : List Value} {xs : Array Operand} {ts : Array TypeId} {args : List SP} {R : SP → List Ent → Prop} {k : Nat} {e : Ent} (hx : ev env x = some (ex (.func (.func f) #[] vs.toArray))) (he : loc[k]? = some e) (hf : C.P.funcs[f]? = some fn) (hbody : fn.body = some c) (hc : FnC C.P f (args ++ vs.map ex) [e] R) (ha : xs.toList.map (ev env) = args.map some) (hk : ∀ p loc', R p loc' → K ((d, p) :: env) (loc' ++ loc.eraseIdx k)) (hname : (fn.name == "runtime.NumGoroutine") = false := by rfl) (hd : Nat.blt d C.N = true := by rfl) (hH : l0.Sublist (loc.eraseIdx k) := by exact List.nil_sublist _) : WO C (feet l0) ⟨some d, .call ⟨.value x, xs, ts⟩, ty, pos, af, g⟩ K env loc := by
  constructor
  intro F a w hR
  have hperm : (loc ++ C.out).Perm ([e] ++ (loc.eraseIdx k ++ C.out)) := by
    have := (erase_perm he).append_right C.out
    simpa using this
  have hca := call_cells hR ha
  have hcv : CellsR F w (args ++ vs.map ex) (xs.toList.map a.eval ++ vs) := hca.app ⟨by simp, fun i p hp => by
    rw [List.getElem?_map] at hp
    obtain ⟨u, h1, rfl⟩ := Option.map_eq_some_iff.1 hp
    exact ⟨u, h1, rfl⟩⟩
  unfold Oper.wp
  rw [run_callv (ev_eval hR hx) hf hbody hname]
  refine (hc F w _ _ (hR.good.perm hperm) hcv).mono ?_
  rintro e2 w' ⟨v, F', p, loc', rfl, hRp, hp, hG, hch, hgr, hown⟩
  refine ⟨F', _, _, hR.called he hp hG hch hgr hown hd, hch.size, hgr, fun b hb hF => hch.block b hb ?_, hk p loc' hRp⟩
  rintro ⟨e', he', h⟩
  simp only [List.mem_singleton] at he'; subst he'
  rcases hF with hF | hF
  · exact (hR.good.lt _ (List.mem_append_left _ (List.mem_of_getElem? he)) b h).2 hF
  · exact hR.good.apart he h hH hF

theorem WO_callv {f : FuncId} {fn : Func} {c : Code} {x : Operand} {vs : List Value} {xs : Array Operand} {ts : Array TypeId} {args : List SP} {R : SP → List Ent → Prop} (hx : ev env x = some (ex (.func (.func f) #[] vs.toArray))) (hf : C.P.funcs[f]? = some fn) (hbody : fn.body = some c) (hc : FnC C.P f (args ++ vs.map ex) [] R) (ha : xs.toList.map (ev env) = args.map some) (hk : ∀ p loc', R p loc' → K ((d, p) :: env) (loc' ++ loc)) (hname : (fn.name == "runtime.NumGoroutine") = false := by rfl) (hd : Nat.blt d C.N = true := by rfl) : WO C H ⟨some d, .call ⟨.value x, xs, ts⟩, ty, pos, af, g⟩ K env loc := by
  constructor
  intro F a w hR
  have hca := call_cells hR ha
  have hcv : CellsR F w (args ++ vs.map ex) (xs.toList.map a.eval ++ vs) := hca.app ⟨by simp, fun i p hp => by
    rw [List.getElem?_map] at hp
    obtain ⟨u, h1, rfl⟩ := Option.map_eq_some_iff.1 hp
    exact ⟨u, h1, rfl⟩⟩
  unfold Oper.wp
  rw [run_callv (ev_eval hR hx) hf hbody hname]
  refine (hc F w _ _ hR.good hcv).mono ?_
  rintro e w' ⟨v, F', p, loc', rfl, hRp, hp, hG, hch, hgr, hown⟩
  have hblk : ∀ b, b < w.heap.size → w'.heap[b]? = w.heap[b]? := fun b hb => hch.block b hb (by rintro ⟨e, he, _⟩; cases he)
  refine ⟨F', _, _, ?_, hch.size, hgr, fun b hb _ => hblk b hb, hk p loc' hRp⟩
  refine hR.next (by rw [List.append_assoc]; exact hG) (fun b hb hlt => ⟨hgr b hb hlt, hblk b hlt⟩) ?_ ?_ hd hp
  · exact ⟨hch.os.trans hR.ch.os, hch.tape.trans hR.ch.tape, hch.output.trans hR.ch.output, Nat.le_trans hR.ch.size hch.size, fun k hk hx => (hblk k (Nat.lt_of_lt_of_le hk hR.ch.size)).trans (hR.ch.block k hk hx)⟩
  · intro e he b hb
    rcases List.mem_append.1 he with he | he
    · rcases hown e he b hb with h | ⟨e', he', _⟩
      · exact .inl (Nat.le_trans hR.ch.size h)
      · cases he'
    · exact hR.own e he b hb

/-! ### A call that reads a row of one's own -/

/-- Arguments of a call; a part of the row in block b reads as a list. -/
inductive ArgB (env : Env) (b : Nat) (ps : List SP) : List Operand → List SP → Prop
  | nil : ArgB env b ps [] []
  | ev {x : Operand} {p : SP} {xs : List Operand} {args : List SP} (h : Fr.ev env x = some p) (hr : ArgB env b ps xs args) : ArgB env b ps (x :: xs) (p :: args)
  | part {x : Operand} {off n c : Nat} {α : Type} {E : Enc α} {fs : α → List SP} {l : List α} {xs : List Operand} {args : List SP} (h : Fr.ev env x = some (ex (.slice (some ⟨b, off, none⟩) n c))) (hE : Fits E fs) (h0 : ∀ a, (fs a).length = E.size) (hpos : 0 < E.size) (hn : l.length = n) (hl : (ps.drop off).take (n * E.size) = l.flatMap fs) (hnc : n ≤ c) (hc : c ≤ maxLen) (hby : n * E.bytes ≤ 140737488355328) (hr : ArgB env b ps xs args) : ArgB env b ps (x :: xs) (isl E l :: args)

theorem flat_at {α : Type} {fs : α → List SP} {s : Nat} (h0 : ∀ a, (fs a).length = s) : ∀ (l : List α) (i : Nat) (hi : i < l.length) (j : Nat), j < s → (l.flatMap fs)[i * s + j]? = (fs l[i])[j]?
  | x :: xs, 0, _, j, hj => by rw [List.flatMap_cons, Nat.zero_mul, Nat.zero_add, List.getElem?_append_left (by rw [h0]; exact hj)]; rfl
  | x :: xs, i + 1, hi, j, hj => by
    rw [List.flatMap_cons, List.getElem?_append_right (by rw [h0, Nat.succ_mul]; omega), h0, List.getElem_cons_succ, ← flat_at h0 xs i (by simpa using hi) j hj]
    congr 1
    rw [Nat.succ_mul]; omega

theorem Sl.of_row {α : Type} {E : Enc α} {fs : α → List SP} {l : List α} {F : Nat → Prop} {w : World} {b T off n c : Nat} {cur : Array Value} {ps : List SP} (hb : w.heap[b]? = some (.cells cur T (0, 0))) (h3 : ∀ (i : Nat) (p : SP), ps[i]? = some p → ∃ v, cur[i]? = some v ∧ p.rel F w v) (hF : F b) (hE : Fits E fs) (h0 : ∀ a, (fs a).length = E.size) (hpos : 0 < E.size) (hn : l.length = n) (hl : (ps.drop off).take (n * E.size) = l.flatMap fs) (hnc : n ≤ c) (hc : c ≤ maxLen) (hby : n * E.bytes ≤ 140737488355328) : Sl E F w (some ⟨b, off, none⟩) n c l := by
  have hlt : b < w.heap.size := (Array.getElem?_eq_some_iff.1 hb).1
  have hall : ∀ i (hi : i < l.length) j, j < E.size → ∃ v p, (fs l[i])[j]? = some p ∧ cur[off + i * E.size + j]? = some v ∧ p.rel F w v := fun i hi j hj => by
    have hp : (fs l[i])[j]? = some ((fs l[i])[j]'(by rw [h0]; exact hj)) := List.getElem?_eq_getElem _
    have h4 := flat_at h0 l i hi j hj
    have hlt2 : i * E.size + j < n * E.size := by
      have : (i + 1) * E.size ≤ n * E.size := Nat.mul_le_mul_right _ (by omega)
      rw [Nat.succ_mul] at this; omega
    rw [← hl, List.getElem?_take, if_pos hlt2, List.getElem?_drop, hp] at h4
    obtain ⟨v, h5, h6⟩ := h3 _ _ h4
    exact ⟨v, _, hp, by rw [Nat.add_assoc]; exact h5, h6⟩
  refine ⟨hn, hnc, hc, hby, fun h => (by cases h), fun i hi => ⟨b, off, (cur.toList.drop (off + i * E.size)).take E.size, rfl, hF, hlt, ?_, fun j hj => ?_, hE.inn ⟨?_, fun j p hp => ?_⟩⟩⟩
  · rw [List.length_take, List.length_drop, Array.length_toList]
    obtain ⟨v, p, _, h4, _⟩ := hall i hi (E.size - 1) (by omega)
    have := (Array.getElem?_eq_some_iff.1 h4).1
    omega
  · rw [List.getElem?_take, if_pos hj, List.getElem?_drop, Array.getElem?_toList]
    simp [World.cell?, hb]
  · rw [List.length_take, List.length_drop, Array.length_toList, h0]
    obtain ⟨v, p, _, h4, _⟩ := hall i hi (E.size - 1) (by omega)
    have := (Array.getElem?_eq_some_iff.1 h4).1
    omega
  · have hj : j < E.size := by rw [← h0 l[i]]; exact (List.getElem?_eq_some_iff.1 hp).1
    obtain ⟨v, q, h4, h5, h6⟩ := hall i hi j hj
    rw [hp] at h4; cases h4
    exact ⟨v, by rw [List.getElem?_take, if_pos hj, List.getElem?_drop, Array.getElem?_toList]; exact h5, h6⟩

theorem ArgB.cells {F F2 : Nat → Prop} {a : Act} {w : World} {b T : Nat} {cur : Array Value} {ps : List SP} (hR : Rel C F env loc a w) (hb : w.heap[b]? = some (.cells cur T (0, 0))) (h3 : ∀ (i : Nat) (p : SP), ps[i]? = some p → ∃ v, cur[i]? = some v ∧ p.rel F2 w v) (hF : ∀ k, F k → F2 k) (hFb : F2 b) {xs : List Operand} {args : List SP} (h : ArgB env b ps xs args) : CellsR F2 w args (xs.map a.eval) := by
  induction h with
  | nil => exact ⟨rfl, fun i p hp => (by cases hp)⟩
  | ev h _ ih =>
    refine ⟨by simp [ih.len], fun i p hp => ?_⟩
    cases i with
    | zero => simp only [List.getElem?_cons_zero, Option.some.injEq] at hp; subst hp; exact ⟨_, rfl, SP.mono _ (ev_eval hR h) fun k hk _ => ⟨hF k hk, rfl⟩⟩
    | succ i => simpa using ih.at_ i p (by simpa using hp)
  | part h hE h0 hpos hn hl hnc hc hby _ ih =>
    refine ⟨by simp [ih.len], fun i p hp => ?_⟩
    cases i with
    | zero =>
      simp only [List.getElem?_cons_zero, Option.some.injEq] at hp; subst hp
      exact ⟨_, rfl, _, _, _, ev_eval hR h, Sl.of_row hb h3 hFb hE h0 hpos hn hl hnc hc hby⟩
    | succ i => simpa using ih.at_ i p (by simpa using hp)

/-- A call that reads the row number k, and hands back a plain value. -/
theorem WO_callb {f : FuncId} {fn : Func} {c : Code} {xs : Array Operand} {ts : Array TypeId} {args : List SP} {R : SP → List Ent → Prop} {k b T tot : Nat} {ps : List SP} (he : loc[k]? = some (row b T tot ps)) (hf : C.P.funcs[f]? = some fn) (hbody : fn.body = some c) (hc : FnC C.P f args [] R) (ha : ArgB env b ps xs.toList args) (hpl : ∀ p loc', R p loc' → loc' = [] ∧ ∃ v, p = ex v) (hk : ∀ v, R (ex v) [] → K ((d, ex v) :: env) loc) (hname : (fn.name == "runtime.NumGoroutine") = false := by rfl) (hd : Nat.blt d C.N = true := by rfl) : WO C H ⟨some d, .call ⟨.value (.func f), xs, ts⟩, ty, pos, af, g⟩ K env loc := by
  constructor
  intro F a w hR
  obtain ⟨cur, h1, h2, h3⟩ := hR.row_at he
  have hmem := List.mem_of_getElem? he
  have hblt : b < w.heap.size := (Array.getElem?_eq_some_iff.1 h1).1
  have hperm : (loc ++ C.out).Perm (row b T tot ps :: (loc.eraseIdx k ++ C.out)) := by
    have := (erase_perm he).append_right C.out
    simpa using this
  have hG := hR.good.perm hperm
  have hup : ∀ j, F j → j < w.heap.size → (F j ∨ j = b) ∧ w.heap[j]? = w.heap[j]? := fun j h _ => ⟨.inl h, rfl⟩
  have hG2 : Good (fun j => F j ∨ j = b) ([] ++ (loc.eraseIdx k ++ C.out)) w := by
    refine ⟨fun e he' => e.mono (hG.rel e (List.mem_cons_of_mem _ he')) hup fun _ _ => rfl, fun e he' j hj => ⟨(hG.lt e (List.mem_cons_of_mem _ he') j hj).1, ?_⟩, (List.pairwise_cons.1 hG.disj).2⟩
    rintro (h | rfl)
    · exact (hG.lt e (List.mem_cons_of_mem _ he') j hj).2 h
    · exact (List.pairwise_cons.1 hG.disj).1 e he' j (by simp [row]) hj
  have hcells := ha.cells (F2 := fun j => F j ∨ j = b) hR h1 (fun i p hp => let ⟨v, h4, h5⟩ := h3 i p hp; ⟨v, h4, p.mono h5 hup⟩) (fun _ h => .inl h) (.inr rfl)
  unfold Oper.wp
  rw [run_call hf hbody hname]
  refine (hc _ w _ _ hG2 hcells).mono ?_
  rintro e w' ⟨v, F', p, loc', rfl, hRp, hp, hG', hch, hgr, hown⟩
  obtain ⟨rfl, u, rfl⟩ := hpl p loc' hRp
  have hv : v = u := hp
  subst hv
  have hblk : ∀ j, j < w.heap.size → w'.heap[j]? = w.heap[j]? := fun j hj => hch.block j hj (by rintro ⟨e, he, _⟩; cases he)
  have hm : ∀ j, F j → j < w.heap.size → (F j) ∧ w'.heap[j]? = w.heap[j]? := fun j h hj => ⟨h, hblk j hj⟩
  refine ⟨F, _, _, ?_, hch.size, fun _ h _ => h, fun j hj _ => hblk j hj, hk v hRp⟩
  refine hR.next ⟨fun e he' => e.mono (hR.good.rel e he') hm fun j hj => hblk j (hR.good.lt e he' j hj).1, fun e he' j hj => ⟨Nat.lt_of_lt_of_le (hR.good.lt e he' j hj).1 hch.size, (hR.good.lt e he' j hj).2⟩, hR.good.disj⟩ hm ?_ hR.own hd rfl
  exact ⟨hch.os.trans hR.ch.os, hch.tape.trans hR.ch.tape, hch.output.trans hR.ch.output, Nat.le_trans hR.ch.size hch.size, fun j hj hx => (hblk j (Nat.lt_of_lt_of_le hj hR.ch.size)).trans (hR.ch.block j hj hx)⟩

/-! ### copy, make -/

theorem WO_copy {s x : Operand} {t t2 e k b off n c T tot m bt : Nat} {ps qs : List SP} {z : Value} (hs : ev env s = some (ex (.slice (some ⟨b, off, none⟩) n c))) (he : loc[k]? = some (row b T tot ps)) (hx : Src C env loc x 1 m qs) (ht : C.P.underlying t = some (.slice e)) [hT : TI C.P e 1 bt z] (hk : K ((d, exI .i64 (min m n : Nat)) :: env) (loc.set k (row b T tot (putC ps off (qs.take (min m n)))))) (ho : off + min m n ≤ ps.length := by first | omega | (simp; done) | (simp; omega)) (hd : Nat.blt d C.N = true := by rfl) (hH : l0.Sublist (loc.eraseIdx k) := by exact List.nil_sublist _) : WO C (feet l0) ⟨some d, .call ⟨.builtin .copy, #[s, x], #[t, t2]⟩, ty, pos, af, g⟩ K env loc := by
  constructor
  intro F a w hR
  obtain ⟨ti, hi, hsz, _, _⟩ := hT.out
  obtain ⟨cur, h1, h2, h3⟩ := hR.row_at he
  obtain ⟨ao, cc, news, hv, hno, hln, hnr, hcell, hone⟩ := hx F a w hR
  have hsv : a.eval s = .slice (some ⟨b, off, none⟩) n c := ev_eval hR hs
  have hlen := row_len h3
  have hrel : CellsR F w (qs.take (min m n)) (news.take (min m n)) := by
    refine ⟨by rw [List.length_take, List.length_take, hnr.len], fun i p hp => ?_⟩
    rw [List.getElem?_take] at hp
    split at hp
    · rename_i hlt
      obtain ⟨v, h4, h5⟩ := hnr.at_ i p hp
      exact ⟨v, by rw [List.getElem?_take, if_pos hlt]; exact h4, h5⟩
    · cases hp
  have hnl : (news.take (min m n)).length = min m n := by rw [List.length_take]; omega
  have hrun : (Builtin.copy_ #[t, t2] ty #[a.eval s, a.eval x]).run C.P w = .ok (goInt (min m n : Nat)) (w.setRow b (cur.toList.take off ++ news.take (min m n) ++ cur.toList.drop (off + (news.take (min m n)).length)).toArray) := by
    rw [hsv, hv]
    cases ao with
    | none =>
      obtain ⟨rfl, rfl⟩ := hno rfl
      have h4 := run_copy_nil (P := C.P) w t t2 ty e ⟨b, off, none⟩ n c ht (by simp [hi])
      rw [h4]
      simp [setRow_self w b cur T (0, 0) h1]
    | some ad =>
      have h4 := run_copy_row (P := C.P) w t t2 ty e b off n c ad m cc cur T (news.take (min m n)) ht (by simp [hi, hsz]) h1 (by rw [hnl]) (fun j v hj => hcell ad rfl j v (by rw [List.getElem?_take] at hj; split at hj; exact hj; cases hj)) (by omega) (fun v hv => hone v (List.mem_of_mem_take hv))
      rw [h4, hnl]
  have hex : (execOp a.eval ⟨some d, .call ⟨.builtin .copy, #[s, x], #[t, t2]⟩, ty, pos, af, g⟩).run C.P w = .ok (.value (goInt (min m n : Nat))) (w.setRow b (cur.toList.take off ++ news.take (min m n) ++ cur.toList.drop (off + (news.take (min m n)).length)).toArray) := by
    generalize a.eval = ρ at hrun ⊢
    simp only [execOp, resolve, invoke, builtin, Sem.run_bind, Sem.run_pure, Result.andThen_ok, List.map_toArray, List.map_cons, List.map_nil, hrun]
  unfold Oper.wp
  rw [hex]
  have hR2 := hR.write (w' := w.setRow b (cur.toList.take off ++ news.take (min m n) ++ cur.toList.drop (off + (news.take (min m n)).length)).toArray) (ps' := putC ps off (qs.take (min m n))) he (setRow_heap w b cur _ T _ h1) (by simp; omega) (over_cells h3 hrel (by omega) (by omega)) (fun j hj => setRow_other w b j _ hj) rfl rfl rfl (by simp [World.setRow])
  refine ⟨F, _, _, hR2.put hd rfl, by simp [World.setRow], fun _ h _ => h, fun j hj hF => setRow_other w b j _ ?_, hk⟩
  rintro rfl
  have hbl : j ∈ (row j T tot ps).foot := by simp [row]
  rcases hF with h | h
  · exact (hR.good.lt _ (List.mem_append_left _ (List.mem_of_getElem? he)) j hbl).2 h
  · exact hR.good.apart he hbl hH h

/-- make, of elements of one cell. -/
theorem WO_make {t e : TypeId} {x y : Operand} {k1 k2 : IntKind} {m1 m2 : Int} {n bt : Nat} {u : Value} (hx : ev env x = some (exI k1 m1)) (hy : ev env y = some (exI k2 m2)) [e1 : Nt m1 n] [e2 : Nt m2 n] (ht : C.P.underlying t = some (.slice e)) [hT : TI C.P e 1 bt u] (hk : ∀ b, K ((d, ex (.slice (some ⟨b, 0, none⟩) n n)) :: env) (row b e n (List.replicate n (ex u)) :: loc)) (hu : u.cells = #[u] := by rfl) (hb : bt * n ≤ 281474976710656 := by first | omega | (simp; done) | (simp; omega)) (hn : n ≤ 9223372036854775807 := by first | omega | (simp; done) | (simp; omega)) (hd : Nat.blt d C.N = true := by rfl) : WO C H ⟨some d, .makeSlice t x y, ty, pos, af, g⟩ K env loc := by
  constructor
  intro F a w hR
  obtain ⟨ti, hi, hsz, hbt, hz⟩ := hT.out
  obtain ⟨rfl⟩ := e1; obtain ⟨rfl⟩ := e2
  have hvx : a.eval x = .int k1 n := ev_eval hR hx
  have hvy : a.eval y = .int k2 n := ev_eval hR hy
  have hmk := run_make (P := C.P) w t e ti u ht hi hz k1 k2 (n : Int) (n : Int) (by omega) (Int.le_refl _) (by have h9 : ((bt * n : Nat) : Int) ≤ 281474976710656 := (by omega); rw [Int.natCast_mul] at h9; rw [hbt]; exact h9) (by omega)
  rw [hsz, Int.toNat_natCast, Nat.mul_one] at hmk
  have hr : (execOp a.eval ⟨some d, .makeSlice t x y, ty, pos, af, g⟩).run C.P w = .ok (.value (.slice (some ⟨w.heap.size, 0, none⟩) n n)) (w.alloc (.cells (madeCells u.cells n) e)) := by
    generalize a.eval = ρ at hvx hvy ⊢
    simp only [execOp, hvx, hvy, Sem.run_bind, hmk]
    rfl
  unfold Oper.wp
  rw [hr]
  have h := hR.alloc (w' := w.alloc (.cells (madeCells u.cells n) e)) (T := e) (cur := madeCells u.cells n) (ps := List.replicate n (ex u)) (d := d) (p := ex (.slice (some ⟨w.heap.size, 0, none⟩) n n)) (v := .slice (some ⟨w.heap.size, 0, none⟩) n n) rfl rfl rfl rfl (fun i q hq => by
    obtain ⟨hi2, rfl⟩ := List.getElem?_eq_some_iff.1 hq
    simp only [List.length_replicate] at hi2
    rw [List.getElem_replicate]
    refine ⟨u, ?_, rfl⟩
    rw [hu]
    simp [madeCells, hi2, Nat.mod_one]) hd (fun _ => rfl)
  rw [size_madeCells] at h
  exact ⟨_, _, _, h, by simp, fun b hb hlt => ⟨hb, hlt⟩, fun b hlt _ => Below.heap_alloc _ _ _ hlt, hk _⟩

end
end Go.Fr

/- Rules of composite values, and of appends in the forms the walker meets. No program in sight. -/
namespace Go.Fr
open Go.RowKit Go.Kx

theorem putC_get {ps qs : List SP} {off : Nat} (h : off + qs.length ≤ ps.length) (i : Nat) : (putC ps off qs)[i]? = if off ≤ i ∧ i < off + qs.length then qs[i - off]? else ps[i]? := by
  unfold putC
  have e1 : (ps.take off).length = off := by rw [List.length_take]; omega
  by_cases h1 : i < off
  · rw [if_neg (by omega), List.append_assoc, List.getElem?_append_left (by omega), List.getElem?_take, if_pos h1]
  · by_cases h2 : i < off + qs.length
    · rw [if_pos ⟨by omega, h2⟩, List.append_assoc, List.getElem?_append_right (by omega), List.getElem?_append_left (by omega), e1]
    · rw [if_neg (by omega), List.getElem?_append_right (by rw [List.length_append]; omega), List.length_append, e1, List.getElem?_drop]
      congr 1; omega
theorem putC_length {ps qs : List SP} {off : Nat} (h : off + qs.length ≤ ps.length) : (putC ps off qs).length = ps.length := by
  simp [putC]; omega

/-- The parts of a composite value. -/
inductive PartsV (F : Nat → Prop) (w : World) (place : Nat → Option (Nat × Nat)) : List (Nat × Value) → List (Nat × List SP) → Prop
  | nil : PartsV F w place [] []
  | cons {i off sz : Nat} {v : Value} {qs : List SP} {r : List (Nat × Value)} {r' : List (Nat × List SP)} (hp : place i = some (off, sz)) (hl : qs.length = sz) (hc : CellsR F w qs v.cells.toList) (hr : PartsV F w place r r') : PartsV F w place ((i, v) :: r) ((off, qs) :: r')

def fillC (zs : List SP) (pq : List (Nat × List SP)) : List SP := pq.foldl (fun acc x => putC acc x.1 x.2) zs

theorem fill_rel {F : Nat → Prop} {w : World} {place : Nat → Option (Nat × Nat)} {parts : List (Nat × Value)} {pq : List (Nat × List SP)} (h : PartsV F w place parts pq) : ∀ {zs : List SP} {cells : Array Value}, CellsR F w zs cells.toList → (∀ x ∈ pq, x.1 + x.2.length ≤ zs.length) → ∃ r, Instr.fill place cells parts = some r ∧ CellsR F w (fillC zs pq) r.toList := by
  induction h with
  | nil => intro zs cells hz _; exact ⟨cells, rfl, hz⟩
  | @cons i off sz v qs r r' hp hl hc _ ih =>
    intro zs cells hz hle
    have hq : off + qs.length ≤ zs.length := hle (off, qs) List.mem_cons_self
    have hzl : cells.size = zs.length := by have := hz.len; simpa using this
    have hvl : v.cells.size = qs.length := by have := hc.len; simpa using this
    obtain ⟨g1, g2⟩ := Great.foldl_set off v.cells.toList 0 cells
    have hz2 : CellsR F w (putC zs off qs) ((v.cells.toList.zipIdx 0).foldl (fun cs (x : Value × Nat) => cs.setIfInBounds (off + x.2) x.1) cells).toList := by
      refine ⟨by rw [Array.length_toList, g1, hzl, putC_length hq], fun j p hj => ?_⟩
      rw [putC_get hq] at hj
      rw [Array.getElem?_toList, g2 j]
      simp only [Nat.add_zero, Array.length_toList]
      split at hj
      · rename_i hin
        rw [if_pos ⟨hin.1, by omega, by omega⟩]
        exact hc.at_ _ p hj
      · rename_i hin
        rw [if_neg (by omega)]
        have := hz.at_ j p hj
        simpa using this
    obtain ⟨r2, h1, h2⟩ := ih hz2 (fun x hx => by rw [putC_length hq]; exact hle x (List.mem_cons_of_mem _ hx))
    refine ⟨r2, ?_, h2⟩
    unfold Instr.fill
    rw [hp]
    simp only
    rw [if_neg (by simp; omega), ← h1]
    congr 1
    rw [← Array.foldl_toList]
    simp

/-- The parts, as operands. -/
inductive PartsO (env : Env) (place : Nat → Option (Nat × Nat)) : List (Nat × Operand) → List (Nat × List SP) → Prop
  | nil : PartsO env place [] []
  | cons {i off sz : Nat} {x : Operand} {p : SP} {qs : List SP} {r : List (Nat × Operand)} {r' : List (Nat × List SP)} (he : ev env x = some p) (hc : AsC p qs) (hp : place i = some (off, sz)) (hl : qs.length = sz) (hr : PartsO env place r r') : PartsO env place ((i, x) :: r) ((off, qs) :: r')

theorem PartsO.vals {C : Cx} {F : Nat → Prop} {env : Env} {loc : List Ent} {a : Act} {w : World} (hR : Rel C F env loc a w) {place : Nat → Option (Nat × Nat)} {parts : List (Nat × Operand)} {pq : List (Nat × List SP)} (h : PartsO env place parts pq) : PartsV F w place (parts.map fun x => (x.1, a.eval x.2)) pq := by
  induction h with
  | nil => exact .nil
  | cons he hc hp hl _ ih => exact .cons hp hl (hc.cells F w _ (ev_eval hR he)) ih

theorem ex_cells {F : Nat → Prop} {w : World} (z : Array Value) : CellsR F w (z.toList.map ex) z.toList := ⟨by simp, fun i p hp => by
  rw [List.getElem?_map] at hp
  obtain ⟨u, h1, rfl⟩ := Option.map_eq_some_iff.1 hp
  exact ⟨u, h1, rfl⟩⟩

section
variable {C : Cx} {S : (Nat → Prop) → World → World → Prop} {H : Nat → Prop} {l0 : List Ent} {env : Env} {loc : List Ent} {d : Nat} {dst : Option Tmp} {ty : TypeId} {pos : String} {af : Array Edge} {g : Option (Nat × Bool)} {K : Env → List Ent → Prop}

/-- A struct literal. -/
theorem WT_build {t : TypeId} {parts : Array (Nat × Operand)} {fs : Array Field} {places : List (Nat × Nat)} {pq : List (Nat × List SP)} {sz bt : Nat} {z : Value} (ht : C.P.underlying t = some (.struct fs)) [hT : TI C.P t sz bt z] (hpl : fs.toList.mapM (fun f => (C.P.info? f.type).map fun i => (f.offset, i.size)) = some places) (hp : PartsO env (places.toArray[·]?) parts.toList pq) (hle : pq.all (fun x => Nat.ble (x.1 + x.2.length) z.cells.size) = true := by rfl) :
    WT C S ⟨dst, .build t parts, ty, pos, af, g⟩ (agg (fillC (z.cells.toList.map ex) pq)) env loc := by
  constructor
  intro F a w hR
  obtain ⟨ti, hi, _, _, hz⟩ := hT.out
  obtain ⟨r, h1, h2⟩ := fill_rel (hp.vals hR) (ex_cells z.cells) (fun x hx => by
    have := List.all_eq_true.1 hle x hx
    simpa using Nat.le_of_ble_eq_true this)
  refine ⟨.agg r, ⟨r.toList, by simp, h2⟩, fun w' _ => ?_⟩
  have hb : C.P.built t (parts.map fun x => (x.1, a.eval x.2)).toList = some r := by
    simp only [Program.built, hi, ht, hz, hpl]
    rw [Array.toList_map]; exact h1
  have := run_build (P := C.P) w' t (parts.map fun x => (x.1, a.eval x.2)) r hb
  generalize a.eval = ρ at this ⊢
  simp only [execOp, Sem.run_bind, this]
  rfl

/-- A slice literal. -/
theorem WO_bslice {t e : TypeId} {len : Nat} {parts : Array (Nat × Operand)} {pq : List (Nat × List SP)} {sz bt : Nat} {z : Value} (ht : C.P.underlying t = some (.slice e)) [hT : TI C.P e sz bt z] (hp : PartsO env (fun i => some (i * sz, sz)) parts.toList pq) (hk : ∀ b, K ((d, ex (.slice (some ⟨b, 0, none⟩) len len)) :: env) (row b e (len * sz) (fillC ((List.range (len * sz)).map fun i => ex z.cells[i % sz]!) pq) :: loc)) (hzs : z.cells.size = sz := by rfl) (hpos : Nat.blt 0 (len * sz) = true := by rfl) (hsm : Nat.ble (len * sz) 16777216 = true := by rfl) (hle : pq.all (fun x => Nat.ble (x.1 + x.2.length) (len * sz)) = true := by rfl) (hd : Nat.blt d C.N = true := by rfl) : WO C H ⟨some d, .buildSlice t len parts, ty, pos, af, g⟩ K env loc := by
  constructor
  intro F a w hR
  obtain ⟨ti, hi, hsz, _, hz⟩ := hT.out
  have hpos' := ne_of_blt hpos
  have hsm' := Nat.le_of_ble_eq_true hsm
  subst hzs
  have hz0 : CellsR F w ((List.range (len * z.cells.size)).map fun i => ex z.cells[i % z.cells.size]!) ((Array.range (len * z.cells.size)).map (z.cells[· % z.cells.size]!)).toList := by
    refine ⟨by simp, fun i p hp => ?_⟩
    rw [List.getElem?_map] at hp
    obtain ⟨j, h1, rfl⟩ := Option.map_eq_some_iff.1 hp
    obtain ⟨h2, h3⟩ := List.getElem?_eq_some_iff.1 h1
    simp only [List.getElem_range] at h3
    subst h3
    simp only [List.length_range] at h2
    exact ⟨_, by simp [h2], rfl⟩
  obtain ⟨r, h1, h2⟩ := fill_rel (hp.vals hR) hz0 (fun x hx => by
    have := List.all_eq_true.1 hle x hx
    simpa using Nat.le_of_ble_eq_true this)
  have hrun := run_buildSlice (P := C.P) w t e len (parts.map fun x => (x.1, a.eval x.2)) r ti z ht hi hz (by rw [hsz]; omega) (by rw [hsz]; omega) (by rw [hsz, Array.toList_map]; exact h1)
  have hr : (execOp a.eval ⟨some d, .buildSlice t len parts, ty, pos, af, g⟩).run C.P w = .ok (.value (.slice (some ⟨w.heap.size, 0, none⟩) len len)) (w.alloc (.cells r e)) := by
    generalize a.eval = ρ at hrun ⊢
    simp only [execOp, Sem.run_bind, hrun]
    rfl
  unfold Oper.wp
  rw [hr]
  have h := hR.alloc (w' := w.alloc (.cells r e)) (T := e) (cur := r) (ps := fillC ((List.range (len * z.cells.size)).map fun i => ex z.cells[i % z.cells.size]!) pq) (d := d) (p := ex (.slice (some ⟨w.heap.size, 0, none⟩) len len)) (v := .slice (some ⟨w.heap.size, 0, none⟩) len len) rfl rfl rfl rfl (fun i q hq => by simpa using h2.at_ i q hq) hd (fun _ => rfl)
  have hrs : r.size = len * z.cells.size := by
    have h3 := h2.len
    have h4 : ∀ (pq : List (Nat × List SP)) (zs : List SP), (∀ x ∈ pq, x.1 + x.2.length ≤ zs.length) → (fillC zs pq).length = zs.length := by
      intro pq
      induction pq with
      | nil => intro zs _; rfl
      | cons x xs ih =>
        intro zs hx
        have hx0 := hx x List.mem_cons_self
        show (fillC (putC zs x.1 x.2) xs).length = _
        rw [ih _ (fun y hy => by rw [putC_length hx0]; exact hx y (List.mem_cons_of_mem _ hy)), putC_length hx0]
    rw [h4 _ _ (fun x hx => by have := List.all_eq_true.1 hle x hx; simpa using Nat.le_of_ble_eq_true this)] at h3
    simpa using h3
  rw [hrs] at h
  exact ⟨_, _, _, h, by simp, fun b hb hlt => ⟨hb, hlt⟩, fun b hlt _ => Below.heap_alloc _ _ _ hlt, hk _⟩

theorem fillC_one {zs qs : List SP} {k : Nat} (h : zs.length = qs.length) : fillC zs [(0 * k, qs)] = qs := by
  show putC zs (0 * k) qs = qs
  unfold putC
  rw [Nat.zero_mul, List.take_zero, Nat.zero_add, List.drop_of_length_le (by omega)]
  simp

/-- A slice literal of one element. -/
theorem WO_bslice1 {t e : TypeId} {x : Operand} {p : SP} {qs : List SP} {sz bt : Nat} {z : Value} (ht : C.P.underlying t = some (.slice e)) [hT : TI C.P e sz bt z] (hx : ev env x = some p) [hc : AsC p qs] (hk : ∀ b, K ((d, ex (.slice (some ⟨b, 0, none⟩) 1 1)) :: env) (row b e sz qs :: loc)) (hl : qs.length = sz := by rfl) (hzs : z.cells.size = sz := by rfl) (hpos : Nat.blt 0 sz = true := by rfl) (hsm : Nat.ble sz 16777216 = true := by rfl) (hd : Nat.blt d C.N = true := by rfl) : WO C H ⟨some d, .buildSlice t 1 #[(0, x)], ty, pos, af, g⟩ K env loc := by
  refine WO_bslice (len := 1) (sz := sz) (pq := [(0 * sz, qs)]) ht (PartsO.cons hx hc rfl hl PartsO.nil) (fun b => ?_) hzs (by rw [Nat.one_mul]; exact hpos) (by rw [Nat.one_mul]; exact hsm) (by simp [hl]) hd
  rw [fillC_one (by simp [hl]), Nat.one_mul]
  exact hk b

/-- An empty slice literal. -/
theorem WO_bslice0 {t e : TypeId} {sz bt : Nat} {z : Value} (ht : C.P.underlying t = some (.slice e)) [hT : TI C.P e sz bt z] (hk : ∀ b, K ((d, ex (.slice (some ⟨b, 0, none⟩) 0 0)) :: env) (row b e 0 [] :: loc)) (hd : Nat.blt d C.N = true := by rfl) : WO C H ⟨some d, .buildSlice t 0 #[], ty, pos, af, g⟩ K env loc := by
  constructor
  intro F a w hR
  obtain ⟨ti, hi, _, _, _⟩ := hT.out
  have hr : (execOp a.eval ⟨some d, .buildSlice t 0 #[], ty, pos, af, g⟩).run C.P w = .ok (.value (.slice (some ⟨w.heap.size, 0, none⟩) 0 0)) (w.alloc (.cells #[] e)) := by
    generalize a.eval = ρ
    simp [execOp, Instr.buildSlice, run_und ht, run_siz hi, Instr.fill, newRow, go_sem]
  unfold Oper.wp
  rw [hr]
  have h := hR.alloc (w' := w.alloc (.cells #[] e)) (T := e) (cur := #[]) (ps := []) (d := d) (p := ex (.slice (some ⟨w.heap.size, 0, none⟩) 0 0)) (v := .slice (some ⟨w.heap.size, 0, none⟩) 0 0) rfl rfl rfl rfl (fun i q hq => by cases hq) hd (fun _ => rfl)
  exact ⟨_, _, _, h, by simp, fun b hb hlt => ⟨hb, hlt⟩, fun b hlt _ => Below.heap_alloc _ _ _ hlt, hk _⟩

/-- A row of one's own, nil or not, is owned no more, and may be read for ever. -/
theorem Leads_freeze_vec {l1 l2 : List Ent} {v : Value} {T n : Nat} {ps : List SP} {α : Type} {E : Enc α} {fs : α → List SP} {l : List α} (hE : Fits E fs) (hf0 : ∀ a, (fs a).length = E.size) (hps : ps = l.flatMap fs) (hn : l.length = n) (hpos : 0 < E.size) (hby : n * E.bytes ≤ 140737488355328) {t : Nat} (ht : look t env = some (ex v)) :
    Leads C env (l1 ++ vec v T E.size n ps :: l2) ((t, isl E l) :: env) (l1 ++ l2) := by
  intro F a w hR
  have hk : (l1 ++ vec v T E.size n ps :: l2)[l1.length]? = some (vec v T E.size n ps) := by simp
  have hsub : (l1 ++ l2).Sublist (l1 ++ vec v T E.size n ps :: l2) := (List.Sublist.refl l1).append (List.sublist_cons_self _ _)
  obtain ⟨xs, h1, h2⟩ := hR.good.rel _ (List.mem_append_left _ (List.mem_of_getElem? hk))
  rcases h1.2 with ⟨rfl, h0⟩ | ⟨b, cap, cur, rfl, _, _, hc1, hc2, _⟩
  · have hl : l = [] := List.eq_nil_of_length_eq_zero (by omega)
    subst hl
    refine ⟨F, hR.good.drop hsub, fun t' q hq => ?_, hR.size, hR.defers, hR.ch, fun e he => hR.own e (hsub.subset he), hR.grow⟩
    rw [look_cons] at hq
    split at hq
    · rename_i e; cases hq; subst e
      have hv : a.tmps.getD t' undef = .slice none 0 0 := hR.env _ _ ht
      rw [hv]
      exact ⟨none, 0, 0, rfl, Sl.zero _ _ _⟩
    · exact hR.env t' q hq
  · have hR2 := LeadsS_vec_row hk F a w hR
    rw [List.set_append_right _ _ (Nat.le_refl _), Nat.sub_self, List.set_cons_zero] at hR2
    exact Leads_freeze hE hf0 hps hn rfl hpos hc2 hby ht F a w hR2

theorem WT_lenvec {v : Value} {k T sz n : Nat} {ps : List SP} {x : Operand} {t e : TypeId} (h : ev env x = some (ex v)) (he : loc[k]? = some (vec v T sz n ps)) (ht : C.P.underlying t = some (.slice e)) : WT C S ⟨dst, .call ⟨.builtin .len, #[x], #[t]⟩, ty, pos, af, g⟩ (exI .i64 n) env loc := by
  constructor
  intro F a w hR
  have hv : a.eval x = v := ev_eval hR h
  obtain ⟨xs, h1, h2⟩ := hR.good.rel _ (List.mem_append_left _ (List.mem_of_getElem? he))
  refine ⟨_, rfl, fun w' _ => ?_⟩
  have key : ∃ a c, v = .slice a n c := by
    rcases h1.2 with ⟨rfl, rfl⟩ | ⟨b, cap, cur, rfl, _⟩
    · exact ⟨_, _, rfl⟩
    · exact ⟨_, _, rfl⟩
  obtain ⟨ad, c, rfl⟩ := key
  generalize a.eval = ρ at hv ⊢
  simp [hv, run_und ht, Builtin.len_, goInt, go_sem]

/-- append, to nil. -/
theorem WO_append_nil {s x : Operand} {t e m sz bt : Nat} {qs : List SP} {z : Value} (hs : ev env s = some (ex (.slice none 0 0))) (hx : Src C env loc x sz m qs) (ht : C.P.underlying t = some (.slice e)) [hT : TI C.P e sz bt z] (hk : ∀ v', K ((d, ex v') :: env) (vec v' e sz (0 + m) ([] ++ qs) :: loc)) (hzs : (z.cells.size == sz) = true := by rfl) (h0 : Nat.blt 0 sz = true := by rfl) (hl : 0 + m ≤ maxLen := by first | omega | (simp only [maxLen]; omega) | (simp [maxLen]; omega)) (hb : (0 + m) * bt ≤ 140737488355328 := by first | omega | (simp only [maxLen]; omega) | (simp [maxLen]; omega)) (hd : Nat.blt d C.N = true := by rfl) (hH : l0.Sublist loc := by exact List.nil_sublist _) : WO C (feet l0) ⟨some d, .call ⟨.builtin .append, #[s, x], #[t, t]⟩, ty, pos, af, g⟩ K env loc := by
  refine WO_lead (LeadsS_vec_nil (T := e) (sz := sz)) (WO_append (k := 0) (l0 := l0) (n := 0) (ps := []) hs rfl ?_ ht hk hzs h0 hl hb hd hH)
  intro F a w hR
  exact hx F a w ⟨hR.good.drop (List.sublist_cons_self _ _), hR.env, hR.size, hR.defers, hR.ch, fun e he => hR.own e (List.mem_cons_of_mem _ he), hR.grow⟩

/-- append, to a whole row of one's own. -/
theorem WO_append_row {s x : Operand} {t e k b n c tot m sz bt : Nat} {ps qs : List SP} {z : Value} (hs : ev env s = some (ex (.slice (some ⟨b, 0, none⟩) n c))) (he : loc[k]? = some (row b e tot ps)) (htot : tot = c * sz) (hn : ps.length = n * sz) (hx : Src C env (loc.set k (vec (.slice (some ⟨b, 0, none⟩) n c) e sz n ps)) x sz m qs) (ht : C.P.underlying t = some (.slice e)) [hT : TI C.P e sz bt z] (hk : ∀ v', K ((d, ex v') :: env) (loc.set k (vec v' e sz (n + m) (ps ++ qs)))) (hc : c ≤ maxLen := by first | omega | (simp only [maxLen]; omega) | (simp [maxLen]; omega)) (hzs : (z.cells.size == sz) = true := by rfl) (h0 : Nat.blt 0 sz = true := by rfl) (hl : n + m ≤ maxLen := by first | omega | (simp only [maxLen]; omega) | (simp [maxLen]; omega)) (hb : (n + m) * bt ≤ 140737488355328 := by first | omega | (simp only [maxLen]; omega) | (simp [maxLen]; omega)) (hd : Nat.blt d C.N = true := by rfl) (hH : l0.Sublist (loc.eraseIdx k) := by exact List.nil_sublist _) : WO C (feet l0) ⟨some d, .call ⟨.builtin .append, #[s, x], #[t, t]⟩, ty, pos, af, g⟩ K env loc := by
  have hlen : k < loc.length := (List.getElem?_eq_some_iff.1 he).1
  refine WO_lead (LeadsS_row_vec he htot hn (ne_of_blt h0) hc) (WO_append (k := k) (l0 := l0) hs (by rw [List.getElem?_set_self hlen]) hx ht (fun v' => ?_) hzs h0 hl hb hd ?_)
  · rw [List.set_set]; exact hk v'
  · rw [List.eraseIdx_set_eq]; exact hH

/-- append, to a slice without room that nobody writes any more. -/
theorem WO_append_clip {α : Type} {E : Enc α} {fs : α → List SP} {l : List α} {s x : Operand} {t e m bt : Nat} {qs : List SP} {z : Value} (hs : ev env s = some (islc E l)) [hE : Fits E fs] (hx : Src C env loc x E.size m qs) (ht : C.P.underlying t = some (.slice e)) [hT : TI C.P e E.size bt z] (hk : ∀ b c, l.length + m ≤ c → c ≤ maxLen → K ((d, ex (.slice (some ⟨b, 0, none⟩) (l.length + m) c)) :: env) (row b e (c * E.size) (l.flatMap fs ++ qs) :: loc)) (hf0 : ∀ a, (fs a).length = E.size := by exact fun _ => rfl) (hm : 0 < m := by first | omega | (simp; done) | (simp; omega)) (hzs : (z.cells.size == E.size) = true := by rfl) (h0 : Nat.blt 0 E.size = true := by rfl) (hl : l.length + m ≤ maxLen := by first | omega | (simp only [maxLen]; omega) | (simp [maxLen]; omega)) (hb : (l.length + m) * bt ≤ 140737488355328 := by first | omega | (simp only [maxLen]; omega) | (simp [maxLen]; omega)) (hd : Nat.blt d C.N = true := by rfl) : WO C H ⟨some d, .call ⟨.builtin .append, #[s, x], #[t, t]⟩, ty, pos, af, g⟩ K env loc := by
  constructor
  intro F a w hR
  obtain ⟨ti, hi, hsz, hbt, hz⟩ := hT.out
  obtain ⟨ad, hv, hsl⟩ := ev_eval hR hs
  obtain ⟨ao, cc, news, hvx, hno, hln, hnr, hcell, hone⟩ := hx F a w hR
  have hpos := ne_of_blt h0
  have hzz : z.cells.size = E.size := by simpa using hzs
  obtain ⟨xs, hel, hcs⟩ := hsl.cells hpos
  have hxl : xs.length = l.length * E.size := hel.length
  cases ao with
  | none => have := hno rfl; omega
  | some sd =>
    have hnc := hcell sd rfl
    have hxr : CellsR F w (l.flatMap fs) xs := by
      refine ⟨by rw [hxl, length_flat hf0], fun i p hp => ?_⟩
      have hil : i < l.length * E.size := by rw [← length_flat hf0]; exact (List.getElem?_eq_some_iff.1 hp).1
      have hq : i / E.size < l.length := (Nat.div_lt_iff_lt_mul hpos).2 hil
      have hr : i % E.size < E.size := Nat.mod_lt _ hpos
      have hdm : i / E.size * E.size + i % E.size = i := by rw [Nat.mul_comm]; exact Nat.div_add_mod i E.size
      have h1 := flat_at hf0 l (i / E.size) hq (i % E.size) hr
      rw [hdm, hp] at h1
      obtain ⟨u, h2, h3⟩ := (hE.out (hel.elem (i / E.size) hq)).at_ _ p h1.symm
      rw [List.getElem?_take, if_pos hr, List.getElem?_drop, hdm] at h2
      exact ⟨u, h2, h3⟩
    have hcap : l.length + m ≤ grownCap w (l.length + m) l.length e := grownCap_ge _ _ _ _
    have hcm : grownCap w (l.length + m) l.length e ≤ maxLen := grownCap_le_maxLen _ _ _ _ hl
    have h63 : ((l.length + m : Nat) : Int) ≤ 9223372036854775807 := by unfold maxLen at hl; omega
    have hrun : ∃ cur : Array Value, (Builtin.append_ #[t, t] ty #[a.eval s, a.eval x]).run C.P w = .ok (.slice (some ⟨w.heap.size, 0, none⟩) (l.length + m) (grownCap w (l.length + m) l.length e)) (w.drew.alloc (.cells cur e)) ∧ cur = xs.toArray ++ news.toArray ++ Builtin.zeroCells z.cells (grownCap w (l.length + m) l.length e - (l.length + m)) := by
      refine ⟨_, ?_, rfl⟩
      rw [hv, hvx]
      cases ad with
      | none =>
        have h00 : l.length = 0 := (hsl.none_zero rfl).1
        have hx0 : xs = [] := List.eq_nil_of_length_eq_zero (by rw [hxl, h00]; simp)
        have h := run_append_nil (P := C.P) w t ty e ti z ht hi hz sd m cc news (by rw [hsz]; exact hln) hnc hm (by omega) (by rw [hbt]; have : m * bt ≤ (l.length + m) * bt := Nat.mul_le_mul_right _ (by omega); omega)
        rw [h00, hx0, Nat.zero_add]
        simpa using h
      | some bd =>
        exact run_append_grow (P := C.P) w t ty e ti z ht hi hz bd l.length l.length xs (by rw [hsz]; exact hxl) (hcs bd rfl) sd m cc news (by rw [hsz]; exact hln) hnc (by omega) h63 (by rw [hbt]; exact growslice_fits (by omega) hb)
    obtain ⟨cur, hrun, hcur⟩ := hrun
    have hex : (execOp a.eval ⟨some d, .call ⟨.builtin .append, #[s, x], #[t, t]⟩, ty, pos, af, g⟩).run C.P w = .ok (.value (.slice (some ⟨w.heap.size, 0, none⟩) (l.length + m) (grownCap w (l.length + m) l.length e))) (w.drew.alloc (.cells cur e)) := by
      generalize a.eval = ρ at hrun ⊢
      simp only [execOp, resolve, invoke, builtin, Sem.run_bind, Sem.run_pure, Result.andThen_ok, List.map_toArray, List.map_cons, List.map_nil, hrun]
    have hsize : cur.size = grownCap w (l.length + m) l.length e * E.size := by
      have h9 : (grownCap w (l.length + m) l.length e - (l.length + m)) * E.size + (l.length + m) * E.size = grownCap w (l.length + m) l.length e * E.size := by rw [← Nat.add_mul]; congr 1; omega
      rw [hcur, Array.size_append, Array.size_append, List.size_toArray, List.size_toArray, hxl, hln]
      simp only [Builtin.zeroCells, Array.size_map, Array.size_range, hzz]
      rw [Nat.add_mul] at h9; omega
    have h := hR.alloc (w' := w.drew.alloc (.cells cur e)) (T := e) (cur := cur) (ps := l.flatMap fs ++ qs) (d := d) (p := ex (.slice (some ⟨w.heap.size, 0, none⟩) (l.length + m) (grownCap w (l.length + m) l.length e))) (v := .slice (some ⟨w.heap.size, 0, none⟩) (l.length + m) (grownCap w (l.length + m) l.length e)) rfl rfl rfl rfl (fun i q hq => by
      obtain ⟨u, h1, h2⟩ := (hxr.app hnr).at_ i q hq
      have hi3 : i < (xs ++ news).length := (List.getElem?_eq_some_iff.1 h1).1
      refine ⟨u, ?_, h2⟩
      rw [hcur, Array.getElem?_append_left (by simpa using hi3), ← h1]
      simp) hd (fun _ => rfl)
    rw [hsize] at h
    unfold Oper.wp
    rw [hex]
    exact ⟨_, _, _, h, by simp, fun b hb hlt => ⟨hb, hlt⟩, fun b hlt _ => Below.heap_alloc w.drew _ _ hlt, hk _ _ hcap hcm⟩

end
end Go.Fr

/- Bytes in slices and rows; states seen otherwise. No program in sight. -/
namespace Go.Fr
open Go.RowKit Go.Kx

def byV (b : UInt8) : List SP := [exI .u8 (b.toNat : Int)]
instance fits_byte : Fits eByte byV where
  out h := ⟨by simp only [eByte] at h; subst h; rfl, fun i p hp => by
    simp only [eByte] at h; subst h
    match i, hp with
    | 0, hp => cases hp; exact ⟨_, rfl, rfl⟩⟩
  inn {F w cs a} h := by
    obtain ⟨v, h1, h2⟩ := h.at_ 0 _ rfl
    have hl : cs.length = 1 := h.len
    obtain ⟨u, rfl⟩ := List.length_eq_one_iff.1 hl
    cases h1
    have h3 : v = .int .u8 (a.toNat : Int) := h2
    rw [h3]; rfl

def ub (b : UInt8) : SP := exI .u8 (b.toNat : Int)
/-- Bytes written over others. -/
def over (bs : List UInt8) (off : Nat) (cs : List UInt8) : List UInt8 := bs.take off ++ cs ++ bs.drop (off + cs.length)
theorem putC_map (bs : List UInt8) (off : Nat) (cs : List UInt8) : putC (bs.map ub) off (cs.map ub) = (over bs off cs).map ub := by
  simp [putC, over, List.map_take, List.map_drop]
theorem over_length (bs : List UInt8) (off : Nat) (cs : List UInt8) (h : off + cs.length ≤ bs.length) : (over bs off cs).length = bs.length := by
  simp [over]; omega
theorem over_step (bs : List UInt8) (p : Nat) (c : UInt8) (cs : List UInt8) (h : p + 1 + cs.length ≤ bs.length) : over (over bs (p + 1) cs) p [c] = over bs p (c :: cs) := by
  have e1 : (List.take (p + 1) bs).length = p + 1 := by rw [List.length_take]; omega
  unfold over
  rw [List.length_singleton, List.append_assoc (List.take (p + 1) bs), List.take_append_of_le_length (by omega), List.take_take, show min p (p + 1) = p by omega, List.drop_append, e1, Nat.sub_self, List.drop_zero, List.drop_of_length_le (by omega), List.nil_append]
  simp [Nat.add_comm, Nat.add_left_comm]


instance {c : UInt8} : Sc (ub c) := Sc_ex rfl
instance {c : UInt8} : Scs (byV c) := Scs_cons (h := Sc_ex rfl) (k := Scs_nil)

theorem flat_byV (l : List UInt8) : l.flatMap byV = l.map ub := by
  induction l with
  | nil => rfl
  | cons b l ih => rw [List.flatMap_cons, ih]; rfl

theorem ArgB.bytes {env : Env} {b off n c : Nat} {bs : List UInt8} {x : Operand} {xs : List Operand} {args : List SP} (h : Fr.ev env x = some (ex (.slice (some ⟨b, off, none⟩) n c))) (hr : ArgB env b (bs.map ub) xs args) (hn : off + n ≤ bs.length := by first | decide | omega | (simp; omega)) (hnc : n ≤ c := by first | decide | omega) (hc : c ≤ maxLen := by first | decide | (simp only [maxLen]; omega)) (hby : n ≤ 140737488355328 := by first | decide | omega) : ArgB env b (bs.map ub) (x :: xs) (isl eByte ((bs.drop off).take n) :: args) := by
  refine .part h fits_byte (fun _ => rfl) (by decide) (by rw [List.length_take, List.length_drop]; omega) ?_ hnc hc (by simpa [eByte] using hby) hr
  rw [flat_byV, ← List.map_drop, show n * eByte.size = n by simp [eByte], ← List.map_take]

theorem ex_inj {u v : Value} (h : ex u = ex v) : u = v := by
  have h1 : (ex u).rel (fun _ => True) default u := rfl
  rw [h] at h1
  exact h1

theorem WP_loc {C : Cx} {c : Code} {Q : Post} {env : Env} {loc loc' : List Ent} (h : loc = loc') (k : WP C c Q env loc') : WP C c Q env loc := h ▸ k
theorem WPL_loc {C : Cx} {ops : Array Oper} {Q : Post} {l : List Oper} {env : Env} {loc loc' : List Ent} (h : loc = loc') (k : WPL C ops Q l env loc') : WPL C ops Q l env loc := h ▸ k

/-- A row of bytes that is handed back whole. -/
theorem Leads_bytes {C : Cx} {env : Env} {b T tot n c : Nat} {bs : List UInt8} {t : Nat} {l1 l2 : List Ent} (ht : look t env = some (ex (.slice (some ⟨b, 0, none⟩) n c))) (hn : bs.length = n) (htot : tot = c) (hc : c ≤ maxLen) (hby : n ≤ 140737488355328) : Leads C env (l1 ++ row b T tot (bs.map ub) :: l2) ((t, isl eByte bs) :: env) (l1 ++ l2) :=
  Leads_freeze (E := eByte) (fs := byV) fits_byte (fun _ => rfl) (flat_byV bs).symm hn (by simpa [eByte] using htot) (by decide) hc (by simpa [eByte] using hby) ht

section
variable {C : Cx} {H : Nat → Prop} {l0 : List Ent} {env : Env} {loc : List Ent} {d : Nat} {dst : Option Tmp} {ty : TypeId} {pos : String} {af : Array Edge} {g : Option (Nat × Bool)} {K : Env → List Ent → Prop}

/-- A byte is stored into a row of bytes. -/
theorem WO_storeB {t : TypeId} {x y : Operand} {k b off T tot bt : Nat} {bs : List UInt8} {c : UInt8} {z : Value} (hx : ev env x = some (ex (.pointer (some ⟨b, off, none⟩)))) (hy : ev env y = some (exI .u8 (c.toNat : Int))) (he : loc[k]? = some (row b T tot (bs.map ub))) [hT : TI C.P t 1 bt z]
    (hk : ∀ bs', bs' = over bs off [c] → bs'.length = bs.length → K env (loc.set k (row b T tot (bs'.map ub)))) (ho : off + 1 ≤ bs.length := by first | omega | (simp; omega)) (hH : l0.Sublist (loc.eraseIdx k) := by exact List.nil_sublist _) : WO C (feet l0) ⟨none, .store t x y, ty, pos, af, g⟩ K env loc := by
  refine WO_store (qs := [ub c]) hx hy he ?_ (by simpa using ho) hH
  have h1 := hk _ rfl (over_length bs off [c] (by simpa using ho))
  rw [← putC_map] at h1
  exact h1

/-- copy, of bytes, into a row of bytes. -/
theorem WO_copyB {s x : Operand} {t t2 e k b off n c T tot bt : Nat} {bs l : List UInt8} {z : Value} (hs : ev env s = some (ex (.slice (some ⟨b, off, none⟩) n c))) (he : loc[k]? = some (row b T tot (bs.map ub))) (hx : ev env x = some (isl eByte l)) (ht : C.P.underlying t = some (.slice e)) [hT : TI C.P e 1 bt z]
    (hk : ∀ bs', bs' = over bs off (l.take (min l.length n)) → bs'.length = bs.length → K ((d, exI .i64 (min l.length n : Nat)) :: env) (loc.set k (row b T tot (bs'.map ub)))) (ho : off + n ≤ bs.length := by first | omega | (simp; omega)) (hd : Nat.blt d C.N = true := by rfl) (hH : l0.Sublist (loc.eraseIdx k) := by exact List.nil_sublist _) : WO C (feet l0) ⟨some d, .call ⟨.builtin .copy, #[s, x], #[t, t2]⟩, ty, pos, af, g⟩ K env loc := by
  refine WO_copy hs he (Src_isl (E := eByte) (fs := byV) hx) ht ?_ (by simp; omega) hd hH
  have h1 := hk _ rfl (over_length bs off _ (by simp; omega))
  rw [← putC_map] at h1
  rw [flat_byV, ← List.map_take]
  exact h1

/-- Bytes all zero, as a variable is made. -/
theorem WPL_zero {ops : Array Oper} {Q : Post} {l : List Oper} {b T tot n : Nat} {ps : List SP} (h : loc[0]? = some (row b T tot ps)) (hp : ps = (List.replicate n (0 : UInt8)).map ub) (ht : tot = n) (hk : ∀ bs, bs = List.replicate n 0 → bs.length = n → WPL C ops Q l env (loc.set 0 (row b T n (bs.map ub)))) : WPL C ops Q l env loc := by
  have h1 := hk _ rfl (by simp)
  subst ht hp
  cases loc with
  | nil => cases h
  | cons e r => simp only [List.getElem?_cons_zero, Option.some.injEq] at h; subst h; exact h1

end

end Go.Fr

/- Slices of slices; growing rows of bytes and of slices, frozen. No program in sight. -/
namespace Go.Fr
open Go.RowKit Go.Kx

/-- How an element that is itself a slice lies in cells. -/
def slV {α : Type} (E : Enc α) (l : List α) : List SP := [isl E l]
instance fits_sl {α : Type} {E : Enc α} : Fits (eSl E) (slV E) where
  out {F w cs a} h := by
    obtain ⟨oa, n, c, rfl, h⟩ := h
    refine ⟨rfl, fun i p hp => ?_⟩
    match i, hp with
    | 0, hp => cases hp; exact ⟨_, rfl, oa, n, c, rfl, h⟩
  inn {F w cs a} h := by
    obtain ⟨v, h1, h2⟩ := h.at_ 0 _ rfl
    have hl : cs.length = 1 := h.len
    obtain ⟨u, rfl⟩ := List.length_eq_one_iff.1 hl
    cases h1
    obtain ⟨oa, n, c, rfl, h5⟩ := h2
    exact ⟨oa, n, c, rfl, h5⟩
theorem flat_slV {α : Type} {E : Enc α} (l : List (List α)) : l.flatMap (slV E) = l.map (isl E) := by
  induction l with
  | nil => rfl
  | cons a l ih => rw [List.flatMap_cons, ih]; rfl

/-- A growing row of bytes that is handed back. -/
theorem Leads_vbytes {C : Cx} {env : Env} {v : Value} {T n : Nat} {bs : List UInt8} {t : Nat} {l1 l2 : List Ent} (ht : look t env = some (ex v)) (hn : bs.length = n) (hby : n ≤ 140737488355328) : Leads C env (l1 ++ vec v T 1 n (bs.map ub) :: l2) ((t, isl eByte bs) :: env) (l1 ++ l2) :=
  Leads_freeze_vec (E := eByte) (fs := byV) fits_byte (fun _ => rfl) (flat_byV bs).symm hn (by decide) (by simpa [eByte] using hby) ht
/-- A growing row of slices that is handed back. -/
theorem Leads_vsl {α : Type} {E : Enc α} {C : Cx} {env : Env} {v : Value} {T n : Nat} {bs : List (List α)} {t : Nat} {l1 l2 : List Ent} (ht : look t env = some (ex v)) (hn : bs.length = n) (hby : n * 24 ≤ 140737488355328) : Leads C env (l1 ++ vec v T 1 n (bs.map (isl E)) :: l2) ((t, isl (eSl E) bs) :: env) (l1 ++ l2) :=
  Leads_freeze_vec (E := eSl E) (fs := slV E) fits_sl (fun _ => rfl) (flat_slV bs).symm hn (by decide : 0 < 1) (by simpa [eSl] using hby) ht

theorem Sl_nil {α : Type} {E : Enc α} {S : Nat → Prop} {w : World} : Sl E S w none 0 0 ([] : List α) := ⟨rfl, Nat.le_refl _, by decide, by simp, fun _ => rfl, fun i h => absurd h (by simp)⟩
theorem LeadsS_nil {α : Type} {E : Enc α} {C : Cx} {env : Env} {loc : List Ent} {t : Nat} (h : look t env = some (ex (.slice none 0 0))) : LeadsS C env loc ((t, isl E ([] : List α)) :: env) loc := by
  intro F a w hR
  refine ⟨hR.good, fun t2 p hp => ?_, hR.size, hR.defers, hR.ch, hR.own, hR.grow⟩
  rw [look_cons] at hp
  split at hp
  · rename_i e; cases hp; subst e
    exact ⟨none, 0, 0, hR.env _ _ h, Sl_nil⟩
  · exact hR.env t2 p hp

/-- A whole row as the source of an append or a copy. -/
theorem Src_rowW {C : Cx} {env : Env} {loc : List Ent} {x : Operand} {k b T tot sz m c : Nat} {ps : List SP} (hx : ev env x = some (ex (.slice (some ⟨b, 0, none⟩) m c))) (he : loc[k]? = some (row b T tot ps)) [hs : Scs ps] (hl : ps.length = m * sz := by first | rfl | (simp; done) | (simp; omega)) : Src C env loc x sz m ps :=
  Src_row hx he (by rw [List.drop_zero, List.take_of_length_le (by omega)]) hl

/-- The greater of integers. -/
theorem WT_max {C : Cx} {S : (Nat → Prop) → World → World → Prop} {env : Env} {loc : List Ent} {dst : Option Tmp} {ty : TypeId} {pos : String} {af : Array Edge} {g : Option (Nat × Bool)} {x y : Operand} {ts : Array TypeId} {k k' : IntKind} {m n : Int} (hx : ev env x = some (exI k m)) (hy : ev env y = some (exI k' n)) : WT C S ⟨dst, .call ⟨.builtin .max, #[x, y], ts⟩, ty, pos, af, g⟩ (exI k (if n > m then n else m)) env loc := by
  constructor
  intro F a w hR
  have hvx : a.eval x = .int k m := ev_eval hR hx
  have hvy : a.eval y = .int k' n := ev_eval hR hy
  refine ⟨_, rfl, fun w' _ => ?_⟩
  generalize a.eval = ρ at hvx hvy ⊢
  simp [execOp, hvx, hvy, go_sem]

theorem WT_quoz {C : Cx} {S : (Nat → Prop) → World → World → Prop} {env : Env} {loc : List Ent} {dst : Option Tmp} {ty : TypeId} {pos : String} {af : Array Edge} {g : Option (Nat × Bool)} {x y : Operand} {t u : TypeId} {m n : Int} {q : Nat} (hx : ev env x = some (exI .i64 m)) (hy : ev env y = some (exI .i64 n)) [hn : Nt n q] (hm : 0 ≤ m := by first | omega | (simp; omega)) (h9 : m ≤ 9223372036854775807 := by first | omega | (simp; omega)) (h0 : 0 < q := by first | omega | (simp; done) | (simp; omega)) : WT C S ⟨dst, .binOp .quo t x y u, ty, pos, af, g⟩ (exI .i64 ((m.toNat / q : Nat) : Int)) env loc :=
  WT_quo (hm := ⟨by omega⟩) hx hy h0 (IntWalk.i64_in _ ((fun d hd => by omega : ∀ d : Nat, d ≤ m.toNat → -9223372036854775808 ≤ (d : Int) ∧ (d : Int) ≤ 9223372036854775807) _ (Nat.div_le_self _ _)))

/-- An own row, seen as a growing one, and slots forgotten. -/
theorem Leads_then {C : Cx} {e1 e2 e3 : Env} {l1 l2 l3 : List Ent} (h : LeadsS C e1 l1 e2 l2) (k : Leads C e2 l2 e3 l3) : Leads C e1 l1 e3 l3 := Leads.trans h.leads k

end Go.Fr
