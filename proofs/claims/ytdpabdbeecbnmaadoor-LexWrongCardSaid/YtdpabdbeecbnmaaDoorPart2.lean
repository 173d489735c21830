/- Rules of composite values, and of appends in the forms the walker meets. No program in sight. -/
import Derived.Test.YtdpabdbeecbnmaaDoorPart1
import Derived.Test.YtdpabdbeecbnmaaDoorRows
import Derived.Great.BuildSlice
import Derived.Lib.SliceRun
import Derived.RangeFuncNested
import Derived.RangeFuncLeaves
import Derived.RangeFuncCalls
import Derived.OwnWalkIn
import Derived.TacticsInMore
import Derived.Scope
import Derived.Laws.Cover1
import Derived.Lib.AppendZerosOnto
import Derived.MapKept
import Derived.Laws.StructEq
import Derived.Lib.Fields
import Derived.Deep.DeepHandedRow
import Derived.Lib.LaidTab
import Derived.LaidLaws
namespace Go.Fr
open Go.RowKit Go.Kx

theorem putC_get {ps qs : List SP} {off : Nat} (h : off + qs.length ≤ ps.length) (i : Nat) : (putC ps off qs)[i]? = if off ≤ i ∧ i < off + qs.length then qs[i - off]? else ps[i]? := by
  unfold putC
  have e1 : (ps.take off).length = off := by rw [List.length_take]; omega
  by_cases h1 : i < off
  · rw [if_neg (by omega), List.append_assoc, List.getElem?_append_left (by omega), List.getElem?_take, if_pos h1]
  · by_cases h2 : i < off + qs.length
    · rw [if_pos ⟨by omega, h2⟩, List.append_assoc, List.getElem?_append_right (by omega), List.getElem?_append_left (by omega), e1]
    · rw [if_neg (by omega), List.getElem?_append_right (by rw [List.length_append]; omega), List.length_append, e1, List.getElem?_drop]
      congr 1; omega
theorem putC_length {ps qs : List SP} {off : Nat} (h : off + qs.length ≤ ps.length) : (putC ps off qs).length = ps.length := by
  simp [putC]; omega

/-- The parts of a composite value. -/
inductive PartsV (F : Nat → Prop) (w : World) (place : Nat → Option (Nat × Nat)) : List (Nat × Value) → List (Nat × List SP) → Prop
  | nil : PartsV F w place [] []
  | cons {i off sz : Nat} {v : Value} {qs : List SP} {r : List (Nat × Value)} {r' : List (Nat × List SP)} (hp : place i = some (off, sz)) (hl : qs.length = sz) (hc : CellsR F w qs v.cells.toList) (hr : PartsV F w place r r') : PartsV F w place ((i, v) :: r) ((off, qs) :: r')

def fillC (zs : List SP) (pq : List (Nat × List SP)) : List SP := pq.foldl (fun acc x => putC acc x.1 x.2) zs

theorem fill_rel {F : Nat → Prop} {w : World} {place : Nat → Option (Nat × Nat)} {parts : List (Nat × Value)} {pq : List (Nat × List SP)} (h : PartsV F w place parts pq) : ∀ {zs : List SP} {cells : Array Value}, CellsR F w zs cells.toList → (∀ x ∈ pq, x.1 + x.2.length ≤ zs.length) → ∃ r, Instr.fill place cells parts = some r ∧ CellsR F w (fillC zs pq) r.toList := by
  induction h with
  | nil => intro zs cells hz _; exact ⟨cells, rfl, hz⟩
  | @cons i off sz v qs r r' hp hl hc _ ih =>
    intro zs cells hz hle
    have hq : off + qs.length ≤ zs.length := hle (off, qs) List.mem_cons_self
    have hzl : cells.size = zs.length := by have := hz.len; simpa using this
    have hvl : v.cells.size = qs.length := by have := hc.len; simpa using this
    obtain ⟨g1, g2⟩ := Great.foldl_set off v.cells.toList 0 cells
    have hz2 : CellsR F w (putC zs off qs) ((v.cells.toList.zipIdx 0).foldl (fun cs (x : Value × Nat) => cs.setIfInBounds (off + x.2) x.1) cells).toList := by
      refine ⟨by rw [Array.length_toList, g1, hzl, putC_length hq], fun j p hj => ?_⟩
      rw [putC_get hq] at hj
      rw [Array.getElem?_toList, g2 j]
      simp only [Nat.add_zero, Array.length_toList]
      split at hj
      · rename_i hin
        rw [if_pos ⟨hin.1, by omega, by omega⟩]
        exact hc.at_ _ p hj
      · rename_i hin
        rw [if_neg (by omega)]
        have := hz.at_ j p hj
        simpa using this
    obtain ⟨r2, h1, h2⟩ := ih hz2 (fun x hx => by rw [putC_length hq]; exact hle x (List.mem_cons_of_mem _ hx))
    refine ⟨r2, ?_, h2⟩
    unfold Instr.fill
    rw [hp]
    simp only
    rw [if_neg (by simp; omega), ← h1]
    congr 1
    rw [← Array.foldl_toList]
    simp

/-- The parts, as operands. -/
inductive PartsO (env : Env) (place : Nat → Option (Nat × Nat)) : List (Nat × Operand) → List (Nat × List SP) → Prop
  | nil : PartsO env place [] []
  | cons {i off sz : Nat} {x : Operand} {p : SP} {qs : List SP} {r : List (Nat × Operand)} {r' : List (Nat × List SP)} (he : ev env x = some p) (hc : AsC p qs) (hp : place i = some (off, sz)) (hl : qs.length = sz) (hr : PartsO env place r r') : PartsO env place ((i, x) :: r) ((off, qs) :: r')

theorem PartsO.vals {C : Cx} {F : Nat → Prop} {env : Env} {loc : List Ent} {a : Act} {w : World} (hR : Rel C F env loc a w) {place : Nat → Option (Nat × Nat)} {parts : List (Nat × Operand)} {pq : List (Nat × List SP)} (h : PartsO env place parts pq) : PartsV F w place (parts.map fun x => (x.1, a.eval x.2)) pq := by
  induction h with
  | nil => exact .nil
  | cons he hc hp hl _ ih => exact .cons hp hl (hc.cells F w _ (ev_eval hR he)) ih

theorem ex_cells {F : Nat → Prop} {w : World} (z : Array Value) : CellsR F w (z.toList.map ex) z.toList := ⟨by simp, fun i p hp => by
  rw [List.getElem?_map] at hp
  obtain ⟨u, h1, rfl⟩ := Option.map_eq_some_iff.1 hp
  exact ⟨u, h1, rfl⟩⟩

section
variable {C : Cx} {S : (Nat → Prop) → World → World → Prop} {H : Nat → Prop} {l0 : List Ent} {env : Env} {loc : List Ent} {d : Nat} {dst : Option Tmp} {ty : TypeId} {pos : String} {af : Array Edge} {g : Option (Nat × Bool)} {K : Env → List Ent → Prop}

/-- A struct literal. -/
theorem WT_build {t : TypeId} {parts : Array (Nat × Operand)} {fs : Array Field} {places : List (Nat × Nat)} {pq : List (Nat × List SP)} {sz bt : Nat} {z : Value} (ht : C.P.underlying t = some (.struct fs)) [hT : TI C.P t sz bt z] (hpl : fs.toList.mapM (fun f => (C.P.info? f.type).map fun i => (f.offset, i.size)) = some places) (hp : PartsO env (places.toArray[·]?) parts.toList pq) (hle : pq.all (fun x => Nat.ble (x.1 + x.2.length) z.cells.size) = true := by rfl) :
    WT C S ⟨dst, .build t parts, ty, pos, af, g⟩ (agg (fillC (z.cells.toList.map ex) pq)) env loc := by
  constructor
  intro F a w hR
  obtain ⟨ti, hi, _, _, hz⟩ := hT.out
  obtain ⟨r, h1, h2⟩ := fill_rel (hp.vals hR) (ex_cells z.cells) (fun x hx => by
    have := List.all_eq_true.1 hle x hx
    simpa using Nat.le_of_ble_eq_true this)
  refine ⟨.agg r, ⟨r.toList, by simp, h2⟩, fun w' _ => ?_⟩
  have hb : C.P.built t (parts.map fun x => (x.1, a.eval x.2)).toList = some r := by
    simp only [Program.built, hi, ht, hz, hpl]
    rw [Array.toList_map]; exact h1
  have := run_build (P := C.P) w' t (parts.map fun x => (x.1, a.eval x.2)) r hb
  generalize a.eval = ρ at this ⊢
  simp only [execOp, Sem.run_bind, this]
  rfl

/-- A slice literal. -/
theorem WO_bslice {t e : TypeId} {len : Nat} {parts : Array (Nat × Operand)} {pq : List (Nat × List SP)} {sz bt : Nat} {z : Value} (ht : C.P.underlying t = some (.slice e)) [hT : TI C.P e sz bt z] (hp : PartsO env (fun i => some (i * sz, sz)) parts.toList pq) (hk : ∀ b, K ((d, ex (.slice (some ⟨b, 0, none⟩) len len)) :: env) (row b e (len * sz) (fillC ((List.range (len * sz)).map fun i => ex z.cells[i % sz]!) pq) :: loc)) (hzs : z.cells.size = sz := by rfl) (hpos : Nat.blt 0 (len * sz) = true := by rfl) (hsm : Nat.ble (len * sz) 16777216 = true := by rfl) (hle : pq.all (fun x => Nat.ble (x.1 + x.2.length) (len * sz)) = true := by rfl) (hd : Nat.blt d C.N = true := by rfl) : WO C H ⟨some d, .buildSlice t len parts, ty, pos, af, g⟩ K env loc := by
  constructor
  intro F a w hR
  obtain ⟨ti, hi, hsz, _, hz⟩ := hT.out
  have hpos' := ne_of_blt hpos
  have hsm' := Nat.le_of_ble_eq_true hsm
  subst hzs
  have hz0 : CellsR F w ((List.range (len * z.cells.size)).map fun i => ex z.cells[i % z.cells.size]!) ((Array.range (len * z.cells.size)).map (z.cells[· % z.cells.size]!)).toList := by
    refine ⟨by simp, fun i p hp => ?_⟩
    rw [List.getElem?_map] at hp
    obtain ⟨j, h1, rfl⟩ := Option.map_eq_some_iff.1 hp
    obtain ⟨h2, h3⟩ := List.getElem?_eq_some_iff.1 h1
    simp only [List.getElem_range] at h3
    subst h3
    simp only [List.length_range] at h2
    exact ⟨_, by simp [h2], rfl⟩
  obtain ⟨r, h1, h2⟩ := fill_rel (hp.vals hR) hz0 (fun x hx => by
    have := List.all_eq_true.1 hle x hx
    simpa using Nat.le_of_ble_eq_true this)
  have hrun := run_buildSlice (P := C.P) w t e len (parts.map fun x => (x.1, a.eval x.2)) r ti z ht hi hz (by rw [hsz]; omega) (by rw [hsz]; omega) (by rw [hsz, Array.toList_map]; exact h1)
  have hr : (execOp a.eval ⟨some d, .buildSlice t len parts, ty, pos, af, g⟩).run C.P w = .ok (.value (.slice (some ⟨w.heap.size, 0, none⟩) len len)) (w.alloc (.cells r e)) := by
    generalize a.eval = ρ at hrun ⊢
    simp only [execOp, Sem.run_bind, hrun]
    rfl
  unfold Oper.wp
  rw [hr]
  have h := hR.alloc (w' := w.alloc (.cells r e)) (T := e) (cur := r) (ps := fillC ((List.range (len * z.cells.size)).map fun i => ex z.cells[i % z.cells.size]!) pq) (d := d) (p := ex (.slice (some ⟨w.heap.size, 0, none⟩) len len)) (v := .slice (some ⟨w.heap.size, 0, none⟩) len len) rfl rfl rfl rfl (fun i q hq => by simpa using h2.at_ i q hq) hd (fun _ => rfl)
  have hrs : r.size = len * z.cells.size := by
    have h3 := h2.len
    have h4 : ∀ (pq : List (Nat × List SP)) (zs : List SP), (∀ x ∈ pq, x.1 + x.2.length ≤ zs.length) → (fillC zs pq).length = zs.length := by
      intro pq
      induction pq with
      | nil => intro zs _; rfl
      | cons x xs ih =>
        intro zs hx
        have hx0 := hx x List.mem_cons_self
        show (fillC (putC zs x.1 x.2) xs).length = _
        rw [ih _ (fun y hy => by rw [putC_length hx0]; exact hx y (List.mem_cons_of_mem _ hy)), putC_length hx0]
    rw [h4 _ _ (fun x hx => by have := List.all_eq_true.1 hle x hx; simpa using Nat.le_of_ble_eq_true this)] at h3
    simpa using h3
  rw [hrs] at h
  exact ⟨_, _, _, h, by simp, fun b hb hlt => ⟨hb, hlt⟩, fun b hlt _ => Below.heap_alloc _ _ _ hlt, hk _⟩

theorem fillC_one {zs qs : List SP} {k : Nat} (h : zs.length = qs.length) : fillC zs [(0 * k, qs)] = qs := by
  show putC zs (0 * k) qs = qs
  unfold putC
  rw [Nat.zero_mul, List.take_zero, Nat.zero_add, List.drop_of_length_le (by omega)]
  simp

/-- A slice literal of one element. -/
theorem WO_bslice1 {t e : TypeId} {x : Operand} {p : SP} {qs : List SP} {sz bt : Nat} {z : Value} (ht : C.P.underlying t = some (.slice e)) [hT : TI C.P e sz bt z] (hx : ev env x = some p) [hc : AsC p qs] (hk : ∀ b, K ((d, ex (.slice (some ⟨b, 0, none⟩) 1 1)) :: env) (row b e sz qs :: loc)) (hl : qs.length = sz := by rfl) (hzs : z.cells.size = sz := by rfl) (hpos : Nat.blt 0 sz = true := by rfl) (hsm : Nat.ble sz 16777216 = true := by rfl) (hd : Nat.blt d C.N = true := by rfl) : WO C H ⟨some d, .buildSlice t 1 #[(0, x)], ty, pos, af, g⟩ K env loc := by
  refine WO_bslice (len := 1) (sz := sz) (pq := [(0 * sz, qs)]) ht (PartsO.cons hx hc rfl hl PartsO.nil) (fun b => ?_) hzs (by rw [Nat.one_mul]; exact hpos) (by rw [Nat.one_mul]; exact hsm) (by simp [hl]) hd
  rw [fillC_one (by simp [hl]), Nat.one_mul]
  exact hk b

/-- An empty slice literal. -/
theorem WO_bslice0 {t e : TypeId} {sz bt : Nat} {z : Value} (ht : C.P.underlying t = some (.slice e)) [hT : TI C.P e sz bt z] (hk : ∀ b, K ((d, ex (.slice (some ⟨b, 0, none⟩) 0 0)) :: env) (row b e 0 [] :: loc)) (hd : Nat.blt d C.N = true := by rfl) : WO C H ⟨some d, .buildSlice t 0 #[], ty, pos, af, g⟩ K env loc := by
  constructor
  intro F a w hR
  obtain ⟨ti, hi, _, _, _⟩ := hT.out
  have hr : (execOp a.eval ⟨some d, .buildSlice t 0 #[], ty, pos, af, g⟩).run C.P w = .ok (.value (.slice (some ⟨w.heap.size, 0, none⟩) 0 0)) (w.alloc (.cells #[] e)) := by
    generalize a.eval = ρ
    simp [execOp, Instr.buildSlice, run_und ht, run_siz hi, Instr.fill, newRow, go_sem]
  unfold Oper.wp
  rw [hr]
  have h := hR.alloc (w' := w.alloc (.cells #[] e)) (T := e) (cur := #[]) (ps := []) (d := d) (p := ex (.slice (some ⟨w.heap.size, 0, none⟩) 0 0)) (v := .slice (some ⟨w.heap.size, 0, none⟩) 0 0) rfl rfl rfl rfl (fun i q hq => by cases hq) hd (fun _ => rfl)
  exact ⟨_, _, _, h, by simp, fun b hb hlt => ⟨hb, hlt⟩, fun b hlt _ => Below.heap_alloc _ _ _ hlt, hk _⟩

/-- A row of one's own, nil or not, is owned no more, and may be read for ever. -/
theorem Leads_freeze_vec {l1 l2 : List Ent} {v : Value} {T n : Nat} {ps : List SP} {α : Type} {E : Enc α} {fs : α → List SP} {l : List α} (hE : Fits E fs) (hf0 : ∀ a, (fs a).length = E.size) (hps : ps = l.flatMap fs) (hn : l.length = n) (hpos : 0 < E.size) (hby : n * E.bytes ≤ 140737488355328) {t : Nat} (ht : look t env = some (ex v)) :
    Leads C env (l1 ++ vec v T E.size n ps :: l2) ((t, isl E l) :: env) (l1 ++ l2) := by
  intro F a w hR
  have hk : (l1 ++ vec v T E.size n ps :: l2)[l1.length]? = some (vec v T E.size n ps) := by simp
  have hsub : (l1 ++ l2).Sublist (l1 ++ vec v T E.size n ps :: l2) := (List.Sublist.refl l1).append (List.sublist_cons_self _ _)
  obtain ⟨xs, h1, h2⟩ := hR.good.rel _ (List.mem_append_left _ (List.mem_of_getElem? hk))
  rcases h1.2 with ⟨rfl, h0⟩ | ⟨b, cap, cur, rfl, _, _, hc1, hc2, _⟩
  · have hl : l = [] := List.eq_nil_of_length_eq_zero (by omega)
    subst hl
    refine ⟨F, hR.good.drop hsub, fun t' q hq => ?_, hR.size, hR.defers, hR.ch, fun e he => hR.own e (hsub.subset he), hR.grow⟩
    rw [look_cons] at hq
    split at hq
    · rename_i e; cases hq; subst e
      have hv : a.tmps.getD t' undef = .slice none 0 0 := hR.env _ _ ht
      rw [hv]
      exact ⟨none, 0, 0, rfl, Sl.zero _ _ _⟩
    · exact hR.env t' q hq
  · have hR2 := LeadsS_vec_row hk F a w hR
    rw [List.set_append_right _ _ (Nat.le_refl _), Nat.sub_self, List.set_cons_zero] at hR2
    exact Leads_freeze hE hf0 hps hn rfl hpos hc2 hby ht F a w hR2

theorem WT_lenvec {v : Value} {k T sz n : Nat} {ps : List SP} {x : Operand} {t e : TypeId} (h : ev env x = some (ex v)) (he : loc[k]? = some (vec v T sz n ps)) (ht : C.P.underlying t = some (.slice e)) : WT C S ⟨dst, .call ⟨.builtin .len, #[x], #[t]⟩, ty, pos, af, g⟩ (exI .i64 n) env loc := by
  constructor
  intro F a w hR
  have hv : a.eval x = v := ev_eval hR h
  obtain ⟨xs, h1, h2⟩ := hR.good.rel _ (List.mem_append_left _ (List.mem_of_getElem? he))
  refine ⟨_, rfl, fun w' _ => ?_⟩
  have key : ∃ a c, v = .slice a n c := by
    rcases h1.2 with ⟨rfl, rfl⟩ | ⟨b, cap, cur, rfl, _⟩
    · exact ⟨_, _, rfl⟩
    · exact ⟨_, _, rfl⟩
  obtain ⟨ad, c, rfl⟩ := key
  generalize a.eval = ρ at hv ⊢
  simp [hv, run_und ht, Builtin.len_, goInt, go_sem]

/-- append, to nil. -/
theorem WO_append_nil {s x : Operand} {t e m sz bt : Nat} {qs : List SP} {z : Value} (hs : ev env s = some (ex (.slice none 0 0))) (hx : Src C env loc x sz m qs) (ht : C.P.underlying t = some (.slice e)) [hT : TI C.P e sz bt z] (hk : ∀ v', K ((d, ex v') :: env) (vec v' e sz (0 + m) ([] ++ qs) :: loc)) (hzs : (z.cells.size == sz) = true := by rfl) (h0 : Nat.blt 0 sz = true := by rfl) (hl : 0 + m ≤ maxLen := by first | omega | (simp only [maxLen]; omega) | (simp [maxLen]; omega)) (hb : (0 + m) * bt ≤ 140737488355328 := by first | omega | (simp only [maxLen]; omega) | (simp [maxLen]; omega)) (hd : Nat.blt d C.N = true := by rfl) (hH : l0.Sublist loc := by exact List.nil_sublist _) : WO C (feet l0) ⟨some d, .call ⟨.builtin .append, #[s, x], #[t, t]⟩, ty, pos, af, g⟩ K env loc := by
  refine WO_lead (LeadsS_vec_nil (T := e) (sz := sz)) (WO_append (k := 0) (l0 := l0) (n := 0) (ps := []) hs rfl ?_ ht hk hzs h0 hl hb hd hH)
  intro F a w hR
  exact hx F a w ⟨hR.good.drop (List.sublist_cons_self _ _), hR.env, hR.size, hR.defers, hR.ch, fun e he => hR.own e (List.mem_cons_of_mem _ he), hR.grow⟩

/-- append, to a whole row of one's own. -/
theorem WO_append_row {s x : Operand} {t e k b n c tot m sz bt : Nat} {ps qs : List SP} {z : Value} (hs : ev env s = some (ex (.slice (some ⟨b, 0, none⟩) n c))) (he : loc[k]? = some (row b e tot ps)) (htot : tot = c * sz) (hn : ps.length = n * sz) (hx : Src C env (loc.set k (vec (.slice (some ⟨b, 0, none⟩) n c) e sz n ps)) x sz m qs) (ht : C.P.underlying t = some (.slice e)) [hT : TI C.P e sz bt z] (hk : ∀ v', K ((d, ex v') :: env) (loc.set k (vec v' e sz (n + m) (ps ++ qs)))) (hc : c ≤ maxLen := by first | omega | (simp only [maxLen]; omega) | (simp [maxLen]; omega)) (hzs : (z.cells.size == sz) = true := by rfl) (h0 : Nat.blt 0 sz = true := by rfl) (hl : n + m ≤ maxLen := by first | omega | (simp only [maxLen]; omega) | (simp [maxLen]; omega)) (hb : (n + m) * bt ≤ 140737488355328 := by first | omega | (simp only [maxLen]; omega) | (simp [maxLen]; omega)) (hd : Nat.blt d C.N = true := by rfl) (hH : l0.Sublist (loc.eraseIdx k) := by exact List.nil_sublist _) : WO C (feet l0) ⟨some d, .call ⟨.builtin .append, #[s, x], #[t, t]⟩, ty, pos, af, g⟩ K env loc := by
  have hlen : k < loc.length := (List.getElem?_eq_some_iff.1 he).1
  refine WO_lead (LeadsS_row_vec he htot hn (ne_of_blt h0) hc) (WO_append (k := k) (l0 := l0) hs (by rw [List.getElem?_set_self hlen]) hx ht (fun v' => ?_) hzs h0 hl hb hd ?_)
  · rw [List.set_set]; exact hk v'
  · rw [List.eraseIdx_set_eq]; exact hH

/-- append, to a slice without room that nobody writes any more. -/
theorem WO_append_clip {α : Type} {E : Enc α} {fs : α → List SP} {l : List α} {s x : Operand} {t e m bt : Nat} {qs : List SP} {z : Value} (hs : ev env s = some (islc E l)) [hE : Fits E fs] (hx : Src C env loc x E.size m qs) (ht : C.P.underlying t = some (.slice e)) [hT : TI C.P e E.size bt z] (hk : ∀ b c, l.length + m ≤ c → c ≤ maxLen → K ((d, ex (.slice (some ⟨b, 0, none⟩) (l.length + m) c)) :: env) (row b e (c * E.size) (l.flatMap fs ++ qs) :: loc)) (hf0 : ∀ a, (fs a).length = E.size := by exact fun _ => rfl) (hm : 0 < m := by first | omega | (simp; done) | (simp; omega)) (hzs : (z.cells.size == E.size) = true := by rfl) (h0 : Nat.blt 0 E.size = true := by rfl) (hl : l.length + m ≤ maxLen := by first | omega | (simp only [maxLen]; omega) | (simp [maxLen]; omega)) (hb : (l.length + m) * bt ≤ 140737488355328 := by first | omega | (simp only [maxLen]; omega) | (simp [maxLen]; omega)) (hd : Nat.blt d C.N = true := by rfl) : WO C H ⟨some d, .call ⟨.builtin .append, #[s, x], #[t, t]⟩, ty, pos, af, g⟩ K env loc := by
  constructor
  intro F a w hR
  obtain ⟨ti, hi, hsz, hbt, hz⟩ := hT.out
  obtain ⟨ad, hv, hsl⟩ := ev_eval hR hs
  obtain ⟨ao, cc, news, hvx, hno, hln, hnr, hcell, hone⟩ := hx F a w hR
  have hpos := ne_of_blt h0
  have hzz : z.cells.size = E.size := by simpa using hzs
  obtain ⟨xs, hel, hcs⟩ := hsl.cells hpos
  have hxl : xs.length = l.length * E.size := hel.length
  cases ao with
  | none => have := hno rfl; omega
  | some sd =>
    have hnc := hcell sd rfl
    have hxr : CellsR F w (l.flatMap fs) xs := by
      refine ⟨by rw [hxl, length_flat hf0], fun i p hp => ?_⟩
      have hil : i < l.length * E.size := by rw [← length_flat hf0]; exact (List.getElem?_eq_some_iff.1 hp).1
      have hq : i / E.size < l.length := (Nat.div_lt_iff_lt_mul hpos).2 hil
      have hr : i % E.size < E.size := Nat.mod_lt _ hpos
      have hdm : i / E.size * E.size + i % E.size = i := by rw [Nat.mul_comm]; exact Nat.div_add_mod i E.size
      have h1 := flat_at hf0 l (i / E.size) hq (i % E.size) hr
      rw [hdm, hp] at h1
      obtain ⟨u, h2, h3⟩ := (hE.out (hel.elem (i / E.size) hq)).at_ _ p h1.symm
      rw [List.getElem?_take, if_pos hr, List.getElem?_drop, hdm] at h2
      exact ⟨u, h2, h3⟩
    have hcap : l.length + m ≤ grownCap w (l.length + m) l.length e := grownCap_ge _ _ _ _
    have hcm : grownCap w (l.length + m) l.length e ≤ maxLen := grownCap_le_maxLen _ _ _ _ hl
    have h63 : ((l.length + m : Nat) : Int) ≤ 9223372036854775807 := by unfold maxLen at hl; omega
    have hrun : ∃ cur : Array Value, (Builtin.append_ #[t, t] ty #[a.eval s, a.eval x]).run C.P w = .ok (.slice (some ⟨w.heap.size, 0, none⟩) (l.length + m) (grownCap w (l.length + m) l.length e)) (w.drew.alloc (.cells cur e)) ∧ cur = xs.toArray ++ news.toArray ++ Builtin.zeroCells z.cells (grownCap w (l.length + m) l.length e - (l.length + m)) := by
      refine ⟨_, ?_, rfl⟩
      rw [hv, hvx]
      cases ad with
      | none =>
        have h00 : l.length = 0 := (hsl.none_zero rfl).1
        have hx0 : xs = [] := List.eq_nil_of_length_eq_zero (by rw [hxl, h00]; simp)
        have h := run_append_nil (P := C.P) w t ty e ti z ht hi hz sd m cc news (by rw [hsz]; exact hln) hnc hm (by omega) (by rw [hbt]; have : m * bt ≤ (l.length + m) * bt := Nat.mul_le_mul_right _ (by omega); omega)
        rw [h00, hx0, Nat.zero_add]
        simpa using h
      | some bd =>
        exact run_append_grow (P := C.P) w t ty e ti z ht hi hz bd l.length l.length xs (by rw [hsz]; exact hxl) (hcs bd rfl) sd m cc news (by rw [hsz]; exact hln) hnc (by omega) h63 (by rw [hbt]; exact growslice_fits (by omega) hb)
    obtain ⟨cur, hrun, hcur⟩ := hrun
    have hex : (execOp a.eval ⟨some d, .call ⟨.builtin .append, #[s, x], #[t, t]⟩, ty, pos, af, g⟩).run C.P w = .ok (.value (.slice (some ⟨w.heap.size, 0, none⟩) (l.length + m) (grownCap w (l.length + m) l.length e))) (w.drew.alloc (.cells cur e)) := by
      generalize a.eval = ρ at hrun ⊢
      simp only [execOp, resolve, invoke, builtin, Sem.run_bind, Sem.run_pure, Result.andThen_ok, List.map_toArray, List.map_cons, List.map_nil, hrun]
    have hsize : cur.size = grownCap w (l.length + m) l.length e * E.size := by
      have h9 : (grownCap w (l.length + m) l.length e - (l.length + m)) * E.size + (l.length + m) * E.size = grownCap w (l.length + m) l.length e * E.size := by rw [← Nat.add_mul]; congr 1; omega
      rw [hcur, Array.size_append, Array.size_append, List.size_toArray, List.size_toArray, hxl, hln]
      simp only [Builtin.zeroCells, Array.size_map, Array.size_range, hzz]
      rw [Nat.add_mul] at h9; omega
    have h := hR.alloc (w' := w.drew.alloc (.cells cur e)) (T := e) (cur := cur) (ps := l.flatMap fs ++ qs) (d := d) (p := ex (.slice (some ⟨w.heap.size, 0, none⟩) (l.length + m) (grownCap w (l.length + m) l.length e))) (v := .slice (some ⟨w.heap.size, 0, none⟩) (l.length + m) (grownCap w (l.length + m) l.length e)) rfl rfl rfl rfl (fun i q hq => by
      obtain ⟨u, h1, h2⟩ := (hxr.app hnr).at_ i q hq
      have hi3 : i < (xs ++ news).length := (List.getElem?_eq_some_iff.1 h1).1
      refine ⟨u, ?_, h2⟩
      rw [hcur, Array.getElem?_append_left (by simpa using hi3), ← h1]
      simp) hd (fun _ => rfl)
    rw [hsize] at h
    unfold Oper.wp
    rw [hex]
    exact ⟨_, _, _, h, by simp, fun b hb hlt => ⟨hb, hlt⟩, fun b hlt _ => Below.heap_alloc w.drew _ _ hlt, hk _ _ hcap hcm⟩

end
end Go.Fr

/- Bytes in slices and rows; states seen otherwise. No program in sight. -/
namespace Go.Fr
open Go.RowKit Go.Kx

def byV (b : UInt8) : List SP := [exI .u8 (b.toNat : Int)]
instance fits_byte : Fits eByte byV where
  out h := ⟨by simp only [eByte] at h; subst h; rfl, fun i p hp => by
    simp only [eByte] at h; subst h
    match i, hp with
    | 0, hp => cases hp; exact ⟨_, rfl, rfl⟩⟩
  inn {F w cs a} h := by
    obtain ⟨v, h1, h2⟩ := h.at_ 0 _ rfl
    have hl : cs.length = 1 := h.len
    obtain ⟨u, rfl⟩ := List.length_eq_one_iff.1 hl
    cases h1
    have h3 : v = .int .u8 (a.toNat : Int) := h2
    rw [h3]; rfl

def ub (b : UInt8) : SP := exI .u8 (b.toNat : Int)
/-- Bytes written over others. -/
def over (bs : List UInt8) (off : Nat) (cs : List UInt8) : List UInt8 := bs.take off ++ cs ++ bs.drop (off + cs.length)
theorem putC_map (bs : List UInt8) (off : Nat) (cs : List UInt8) : putC (bs.map ub) off (cs.map ub) = (over bs off cs).map ub := by
  simp [putC, over, List.map_take, List.map_drop]
theorem over_length (bs : List UInt8) (off : Nat) (cs : List UInt8) (h : off + cs.length ≤ bs.length) : (over bs off cs).length = bs.length := by
  simp [over]; omega
theorem over_step (bs : List UInt8) (p : Nat) (c : UInt8) (cs : List UInt8) (h : p + 1 + cs.length ≤ bs.length) : over (over bs (p + 1) cs) p [c] = over bs p (c :: cs) := by
  have e1 : (List.take (p + 1) bs).length = p + 1 := by rw [List.length_take]; omega
  unfold over
  rw [List.length_singleton, List.append_assoc (List.take (p + 1) bs), List.take_append_of_le_length (by omega), List.take_take, show min p (p + 1) = p by omega, List.drop_append, e1, Nat.sub_self, List.drop_zero, List.drop_of_length_le (by omega), List.nil_append]
  simp [Nat.add_comm, Nat.add_left_comm]


instance {c : UInt8} : Sc (ub c) := Sc_ex rfl
instance {c : UInt8} : Scs (byV c) := Scs_cons (h := Sc_ex rfl) (k := Scs_nil)

theorem flat_byV (l : List UInt8) : l.flatMap byV = l.map ub := by
  induction l with
  | nil => rfl
  | cons b l ih => rw [List.flatMap_cons, ih]; rfl

theorem ArgB.bytes {env : Env} {b off n c : Nat} {bs : List UInt8} {x : Operand} {xs : List Operand} {args : List SP} (h : Fr.ev env x = some (ex (.slice (some ⟨b, off, none⟩) n c))) (hr : ArgB env b (bs.map ub) xs args) (hn : off + n ≤ bs.length := by first | decide | omega | (simp; omega)) (hnc : n ≤ c := by first | decide | omega) (hc : c ≤ maxLen := by first | decide | (simp only [maxLen]; omega)) (hby : n ≤ 140737488355328 := by first | decide | omega) : ArgB env b (bs.map ub) (x :: xs) (isl eByte ((bs.drop off).take n) :: args) := by
  refine .part h fits_byte (fun _ => rfl) (by decide) (by rw [List.length_take, List.length_drop]; omega) ?_ hnc hc (by simpa [eByte] using hby) hr
  rw [flat_byV, ← List.map_drop, show n * eByte.size = n by simp [eByte], ← List.map_take]

theorem ex_inj {u v : Value} (h : ex u = ex v) : u = v := by
  have h1 : (ex u).rel (fun _ => True) default u := rfl
  rw [h] at h1
  exact h1

theorem WP_loc {C : Cx} {c : Code} {Q : Post} {env : Env} {loc loc' : List Ent} (h : loc = loc') (k : WP C c Q env loc') : WP C c Q env loc := h ▸ k
theorem WPL_loc {C : Cx} {ops : Array Oper} {Q : Post} {l : List Oper} {env : Env} {loc loc' : List Ent} (h : loc = loc') (k : WPL C ops Q l env loc') : WPL C ops Q l env loc := h ▸ k

/-- A row of bytes that is handed back whole. -/
theorem Leads_bytes {C : Cx} {env : Env} {b T tot n c : Nat} {bs : List UInt8} {t : Nat} {l1 l2 : List Ent} (ht : look t env = some (ex (.slice (some ⟨b, 0, none⟩) n c))) (hn : bs.length = n) (htot : tot = c) (hc : c ≤ maxLen) (hby : n ≤ 140737488355328) : Leads C env (l1 ++ row b T tot (bs.map ub) :: l2) ((t, isl eByte bs) :: env) (l1 ++ l2) :=
  Leads_freeze (E := eByte) (fs := byV) fits_byte (fun _ => rfl) (flat_byV bs).symm hn (by simpa [eByte] using htot) (by decide) hc (by simpa [eByte] using hby) ht

section
variable {C : Cx} {H : Nat → Prop} {l0 : List Ent} {env : Env} {loc : List Ent} {d : Nat} {dst : Option Tmp} {ty : TypeId} {pos : String} {af : Array Edge} {g : Option (Nat × Bool)} {K : Env → List Ent → Prop}

/-- A byte is stored into a row of bytes. -/
theorem WO_storeB {t : TypeId} {x y : Operand} {k b off T tot bt : Nat} {bs : List UInt8} {c : UInt8} {z : Value} (hx : ev env x = some (ex (.pointer (some ⟨b, off, none⟩)))) (hy : ev env y = some (exI .u8 (c.toNat : Int))) (he : loc[k]? = some (row b T tot (bs.map ub))) [hT : TI C.P t 1 bt z]
    (hk : ∀ bs', bs' = over bs off [c] → bs'.length = bs.length → K env (loc.set k (row b T tot (bs'.map ub)))) (ho : off + 1 ≤ bs.length := by first | omega | (simp; omega)) (hH : l0.Sublist (loc.eraseIdx k) := by exact List.nil_sublist _) : WO C (feet l0) ⟨none, .store t x y, ty, pos, af, g⟩ K env loc := by
  refine WO_store (qs := [ub c]) hx hy he ?_ (by simpa using ho) hH
  have h1 := hk _ rfl (over_length bs off [c] (by simpa using ho))
  rw [← putC_map] at h1
  exact h1

/-- copy, of bytes, into a row of bytes. -/
theorem WO_copyB {s x : Operand} {t t2 e k b off n c T tot bt : Nat} {bs l : List UInt8} {z : Value} (hs : ev env s = some (ex (.slice (some ⟨b, off, none⟩) n c))) (he : loc[k]? = some (row b T tot (bs.map ub))) (hx : ev env x = some (isl eByte l)) (ht : C.P.underlying t = some (.slice e)) [hT : TI C.P e 1 bt z]
    (hk : ∀ bs', bs' = over bs off (l.take (min l.length n)) → bs'.length = bs.length → K ((d, exI .i64 (min l.length n : Nat)) :: env) (loc.set k (row b T tot (bs'.map ub)))) (ho : off + n ≤ bs.length := by first | omega | (simp; omega)) (hd : Nat.blt d C.N = true := by rfl) (hH : l0.Sublist (loc.eraseIdx k) := by exact List.nil_sublist _) : WO C (feet l0) ⟨some d, .call ⟨.builtin .copy, #[s, x], #[t, t2]⟩, ty, pos, af, g⟩ K env loc := by
  refine WO_copy hs he (Src_isl (E := eByte) (fs := byV) hx) ht ?_ (by simp; omega) hd hH
  have h1 := hk _ rfl (over_length bs off _ (by simp; omega))
  rw [← putC_map] at h1
  rw [flat_byV, ← List.map_take]
  exact h1

/-- Bytes all zero, as a variable is made. -/
theorem WPL_zero {ops : Array Oper} {Q : Post} {l : List Oper} {b T tot n : Nat} {ps : List SP} (h : loc[0]? = some (row b T tot ps)) (hp : ps = (List.replicate n (0 : UInt8)).map ub) (ht : tot = n) (hk : ∀ bs, bs = List.replicate n 0 → bs.length = n → WPL C ops Q l env (loc.set 0 (row b T n (bs.map ub)))) : WPL C ops Q l env loc := by
  have h1 := hk _ rfl (by simp)
  subst ht hp
  cases loc with
  | nil => cases h
  | cons e r => simp only [List.getElem?_cons_zero, Option.some.injEq] at h; subst h; exact h1

end

end Go.Fr

/- Slices of slices; growing rows of bytes and of slices, frozen. No program in sight. -/
namespace Go.Fr
open Go.RowKit Go.Kx

/-- How an element that is itself a slice lies in cells. -/
def slV {α : Type} (E : Enc α) (l : List α) : List SP := [isl E l]
instance fits_sl {α : Type} {E : Enc α} : Fits (eSl E) (slV E) where
  out {F w cs a} h := by
    obtain ⟨oa, n, c, rfl, h⟩ := h
    refine ⟨rfl, fun i p hp => ?_⟩
    match i, hp with
    | 0, hp => cases hp; exact ⟨_, rfl, oa, n, c, rfl, h⟩
  inn {F w cs a} h := by
    obtain ⟨v, h1, h2⟩ := h.at_ 0 _ rfl
    have hl : cs.length = 1 := h.len
    obtain ⟨u, rfl⟩ := List.length_eq_one_iff.1 hl
    cases h1
    obtain ⟨oa, n, c, rfl, h5⟩ := h2
    exact ⟨oa, n, c, rfl, h5⟩
theorem flat_slV {α : Type} {E : Enc α} (l : List (List α)) : l.flatMap (slV E) = l.map (isl E) := by
  induction l with
  | nil => rfl
  | cons a l ih => rw [List.flatMap_cons, ih]; rfl

/-- A growing row of bytes that is handed back. -/
theorem Leads_vbytes {C : Cx} {env : Env} {v : Value} {T n : Nat} {bs : List UInt8} {t : Nat} {l1 l2 : List Ent} (ht : look t env = some (ex v)) (hn : bs.length = n) (hby : n ≤ 140737488355328) : Leads C env (l1 ++ vec v T 1 n (bs.map ub) :: l2) ((t, isl eByte bs) :: env) (l1 ++ l2) :=
  Leads_freeze_vec (E := eByte) (fs := byV) fits_byte (fun _ => rfl) (flat_byV bs).symm hn (by decide) (by simpa [eByte] using hby) ht
/-- A growing row of slices that is handed back. -/
theorem Leads_vsl {α : Type} {E : Enc α} {C : Cx} {env : Env} {v : Value} {T n : Nat} {bs : List (List α)} {t : Nat} {l1 l2 : List Ent} (ht : look t env = some (ex v)) (hn : bs.length = n) (hby : n * 24 ≤ 140737488355328) : Leads C env (l1 ++ vec v T 1 n (bs.map (isl E)) :: l2) ((t, isl (eSl E) bs) :: env) (l1 ++ l2) :=
  Leads_freeze_vec (E := eSl E) (fs := slV E) fits_sl (fun _ => rfl) (flat_slV bs).symm hn (by decide : 0 < 1) (by simpa [eSl] using hby) ht

theorem Sl_nil {α : Type} {E : Enc α} {S : Nat → Prop} {w : World} : Sl E S w none 0 0 ([] : List α) := ⟨rfl, Nat.le_refl _, by decide, by simp, fun _ => rfl, fun i h => absurd h (by simp)⟩
theorem LeadsS_nil {α : Type} {E : Enc α} {C : Cx} {env : Env} {loc : List Ent} {t : Nat} (h : look t env = some (ex (.slice none 0 0))) : LeadsS C env loc ((t, isl E ([] : List α)) :: env) loc := by
  intro F a w hR
  refine ⟨hR.good, fun t2 p hp => ?_, hR.size, hR.defers, hR.ch, hR.own, hR.grow⟩
  rw [look_cons] at hp
  split at hp
  · rename_i e; cases hp; subst e
    exact ⟨none, 0, 0, hR.env _ _ h, Sl_nil⟩
  · exact hR.env t2 p hp

/-- A whole row as the source of an append or a copy. -/
theorem Src_rowW {C : Cx} {env : Env} {loc : List Ent} {x : Operand} {k b T tot sz m c : Nat} {ps : List SP} (hx : ev env x = some (ex (.slice (some ⟨b, 0, none⟩) m c))) (he : loc[k]? = some (row b T tot ps)) [hs : Scs ps] (hl : ps.length = m * sz := by first | rfl | (simp; done) | (simp; omega)) : Src C env loc x sz m ps :=
  Src_row hx he (by rw [List.drop_zero, List.take_of_length_le (by omega)]) hl

/-- The greater of integers. -/
theorem WT_max {C : Cx} {S : (Nat → Prop) → World → World → Prop} {env : Env} {loc : List Ent} {dst : Option Tmp} {ty : TypeId} {pos : String} {af : Array Edge} {g : Option (Nat × Bool)} {x y : Operand} {ts : Array TypeId} {k k' : IntKind} {m n : Int} (hx : ev env x = some (exI k m)) (hy : ev env y = some (exI k' n)) : WT C S ⟨dst, .call ⟨.builtin .max, #[x, y], ts⟩, ty, pos, af, g⟩ (exI k (if n > m then n else m)) env loc := by
  constructor
  intro F a w hR
  have hvx : a.eval x = .int k m := ev_eval hR hx
  have hvy : a.eval y = .int k' n := ev_eval hR hy
  refine ⟨_, rfl, fun w' _ => ?_⟩
  generalize a.eval = ρ at hvx hvy ⊢
  simp [hvx, hvy, go_sem]

theorem WT_quoz {C : Cx} {S : (Nat → Prop) → World → World → Prop} {env : Env} {loc : List Ent} {dst : Option Tmp} {ty : TypeId} {pos : String} {af : Array Edge} {g : Option (Nat × Bool)} {x y : Operand} {t u : TypeId} {m n : Int} {q : Nat} (hx : ev env x = some (exI .i64 m)) (hy : ev env y = some (exI .i64 n)) [hn : Nt n q] (hm : 0 ≤ m := by first | omega | (simp; omega)) (h9 : m ≤ 9223372036854775807 := by first | omega | (simp; omega)) (h0 : 0 < q := by first | omega | (simp; done) | (simp; omega)) : WT C S ⟨dst, .binOp .quo t x y u, ty, pos, af, g⟩ (exI .i64 ((m.toNat / q : Nat) : Int)) env loc :=
  WT_quo (hm := ⟨by omega⟩) hx hy h0 (IntWalk.i64_in _ ((fun d hd => by omega : ∀ d : Nat, d ≤ m.toNat → -9223372036854775808 ≤ (d : Int) ∧ (d : Int) ≤ 9223372036854775807) _ (Nat.div_le_self _ _)))

/-- An own row, seen as a growing one, and slots forgotten. -/
theorem Leads_then {C : Cx} {e1 e2 e3 : Env} {l1 l2 l3 : List Ent} (h : LeadsS C e1 l1 e2 l2) (k : Leads C e2 l2 e3 l3) : Leads C e1 l1 e3 l3 := Leads.trans h.leads k

end Go.Fr

/- Disks by value, and contracts without a frame turned into contracts of the frame. No program in sight. -/
namespace Go.Fr
open Go.RowKit Go.Kx

/-- A disk by value. -/
abbrev dsk (D : Disk) : SP := agg [isl (eSl eByte) D.secs, isl eWr D.pend, exI .i64 D.left, exB D.stopped]

theorem CellsR.two {F : Nat → Prop} {w : World} {p q : SP} {cs : List Value} (h : CellsR F w [p, q] cs) : ∃ u v, cs = [u, v] ∧ p.rel F w u ∧ q.rel F w v := by
  obtain ⟨hl, ha⟩ := h
  match cs, hl with
  | [u, v], _ =>
    obtain ⟨u', h1, h2⟩ := ha 0 p rfl
    obtain ⟨v', h3, h4⟩ := ha 1 q rfl
    simp at h1 h3
    exact ⟨u, v, rfl, h1 ▸ h2, h3 ▸ h4⟩
theorem cells1 {F : Nat → Prop} {w : World} {p : SP} {cs : List Value} (h : CellsR F w [p] cs) : ∃ u, cs = [u] ∧ p.rel F w u := by
  obtain ⟨hl, ha⟩ := h
  match cs, hl with
  | [u], _ =>
    obtain ⟨u', h1, h2⟩ := ha 0 p rfl
    simp at h1
    exact ⟨u, rfl, h1 ▸ h2⟩
theorem CellsR.three {F : Nat → Prop} {w : World} {p q r : SP} {cs : List Value} (h : CellsR F w [p, q, r] cs) : ∃ u v x, cs = [u, v, x] ∧ p.rel F w u ∧ q.rel F w v ∧ r.rel F w x := by
  obtain ⟨hl, ha⟩ := h
  match cs, hl with
  | [u, v, x], _ =>
    obtain ⟨u', h1, h2⟩ := ha 0 p rfl
    obtain ⟨v', h3, h4⟩ := ha 1 q rfl
    obtain ⟨x', h5, h6⟩ := ha 2 r rfl
    simp at h1 h3 h5
    exact ⟨u, v, x, rfl, h1 ▸ h2, h3 ▸ h4, h5 ▸ h6⟩
theorem CellsR.four {F : Nat → Prop} {w : World} {p q r s : SP} {cs : List Value} (h : CellsR F w [p, q, r, s] cs) : ∃ u v x y, cs = [u, v, x, y] ∧ p.rel F w u ∧ q.rel F w v ∧ r.rel F w x ∧ s.rel F w y := by
  obtain ⟨hl, ha⟩ := h
  match cs, hl with
  | [u, v, x, y], _ =>
    obtain ⟨u', h1, h2⟩ := ha 0 p rfl
    obtain ⟨v', h3, h4⟩ := ha 1 q rfl
    obtain ⟨x', h5, h6⟩ := ha 2 r rfl
    obtain ⟨y', h7, h8⟩ := ha 3 s rfl
    simp at h1 h3 h5 h7
    exact ⟨u, v, x, y, rfl, h1 ▸ h2, h3 ▸ h4, h5 ▸ h6, h7 ▸ h8⟩
theorem CellsR.nil {F : Nat → Prop} {w : World} : CellsR F w [] [] := ⟨rfl, fun i p h => by simp at h⟩
theorem CellsR.cons {F : Nat → Prop} {w : World} {p : SP} {ps : List SP} {u : Value} {cs : List Value} (h : p.rel F w u) (k : CellsR F w ps cs) : CellsR F w (p :: ps) (u :: cs) := by
  refine ⟨by simp [k.len], fun i q hq => ?_⟩
  cases i with
  | zero => simp at hq; subst hq; exact ⟨u, rfl, h⟩
  | succ i => obtain ⟨v, h1, h2⟩ := k.at_ i q (by simpa using hq); exact ⟨v, by simpa using h1, h2⟩

theorem dsk_of {D : Disk} {F : Nat → Prop} {w : World} {v : Value} (h : (dsk D).rel F w v) : ∃ sa sn sc pa pn pc, v = .agg #[.slice sa sn sc, .slice pa pn pc, .int .i64 D.left, .bool D.stopped] ∧ Sl (eSl eByte) F w sa sn sc D.secs ∧ Sl eWr F w pa pn pc D.pend := by
  obtain ⟨cs, rfl, h⟩ := h
  obtain ⟨u, v, x, y, rfl, ⟨sa, sn, sc, rfl, h1⟩, ⟨pa, pn, pc, rfl, h2⟩, rfl, rfl⟩ := h.four
  exact ⟨sa, sn, sc, pa, pn, pc, rfl, h1, h2⟩
theorem dsk_to {D : Disk} {F : Nat → Prop} {w : World} {sa : Option Addr} {sn sc : Nat} {pa : Option Addr} {pn pc : Nat} (h1 : Sl (eSl eByte) F w sa sn sc D.secs) (h2 : Sl eWr F w pa pn pc D.pend) : (dsk D).rel F w (.agg #[.slice sa sn sc, .slice pa pn pc, .int .i64 D.left, .bool D.stopped]) :=
  ⟨[.slice sa sn sc, .slice pa pn pc, .int .i64 D.left, .bool D.stopped], rfl, .cons ⟨sa, sn, sc, rfl, h1⟩ (.cons ⟨pa, pn, pc, rfl, h2⟩ (.cons rfl (.cons rfl .nil)))⟩

/-- A contract that says of the rest only that nothing below turns. -/
theorem FnC_of {P : Program} {f : FuncId} {args : List SP} {R : SP → List Ent → Prop} (h : ∀ F w vals, CellsR F w args vals → Calls P f vals.toArray w (fun e w' => ∃ v p, e = .returned v ∧ R p [] ∧ p.rel (Up F w) w' v ∧ Below w.heap.size w w')) : FnC P f args [] R := by
  intro F w vals out hG hA
  refine (h F w vals hA).mono ?_
  rintro e w' ⟨v, p, rfl, hR, hp, hb⟩
  refine ⟨v, Up F w, p, [], rfl, hR, hp, ?_, ⟨hb.os, hb.tape, hb.output, hb.size, fun k hk _ => hb.block k hk⟩, fun b hb _ => .inl hb, fun e he => absurd he (by simp)⟩
  have hG' : Good F out w := hG
  refine ⟨fun e he => ?_, fun e he b hb' => ?_, hG'.disj⟩
  · exact e.mono (hG'.rel e he) (fun b hF hl => ⟨.inl hF, hb.block b hl⟩) fun b hb' => hb.block b (hG'.lt e he b hb').1
  · obtain ⟨h1, h2⟩ := hG'.lt e he b hb'
    exact ⟨Nat.lt_of_lt_of_le h1 hb.size, fun h => h.elim h2 fun h => absurd h (by omega)⟩

/-- A result of a disk and an error. -/
theorem RetDisk.fr {S : Nat → Prop} {w w' : World} {r : Disk × Int} {e : Ending} (h : RetDisk S w r e w') : ∃ v p, e = .returned v ∧ (p = tup [dsk r.1, exI .i64 r.2] ∧ ([] : List Ent) = []) ∧ p.rel (Up S w) w' v ∧ Below w.heap.size w w' := by
  obtain ⟨sa, sn, sc, pa, pn, pc, rfl, hD, hb⟩ := h
  exact ⟨_, _, rfl, ⟨rfl, rfl⟩, ⟨[_, _], rfl, .cons (dsk_to hD.secs hD.pend) (.cons rfl .nil)⟩, hb⟩

end Go.Fr

/- Slices compared with nil, slices without room, and rows that are owned no more in the middle of a region. No program in sight. -/
namespace Go.Fr
open Go.RowKit Go.Kx
section
variable {C : Cx} {S : (Nat → Prop) → World → World → Prop} {H : Nat → Prop} {env : Env} {loc : List Ent} {dst : Option Tmp} {ty : TypeId} {pos : String} {af : Array Edge} {g : Option (Nat × Bool)} {K : Env → List Ent → Prop} {d : Nat}

instance Scs_slV {α : Type} {E : Enc α} {l : List α} : Scs (slV E l) := Scs_cons (h := inferInstance) (k := Scs_nil)

theorem g_binE {o : BinOp} {t u : TypeId} {x y : Operand} (h : WO C H ⟨dst, .binOp o t x y u, ty, pos, af, g⟩ K env loc) : WO C H ⟨dst, .binOp o t x y u, ty, pos, af, g⟩ K env loc := h

/-- Is a slice nil? If so, then it has no elements. -/
theorem WO_isnil {α : Type} {E : Enc α} {l : List α} {t u e : TypeId} {x y : Operand} (hx : ev env x = some (isl E l)) (hy : ev env y = some (ex (.slice none 0 0))) (ht : C.P.underlying t = some (.slice e)) (hk : ∀ b : Bool, (b = true → l = []) → K ((d, exB b) :: env) loc) (hd : Nat.blt d C.N = true := by rfl) : WO C H ⟨some d, .binOp .eql t x y u, ty, pos, af, g⟩ K env loc := by
  constructor
  intro F a w hR
  obtain ⟨ao, n, c, hv, hsl⟩ := ev_eval hR hx
  have hvy : a.eval y = .slice none 0 0 := ev_eval hR hy
  have hr : (execOp a.eval ⟨some d, .binOp .eql t x y u, ty, pos, af, g⟩).run C.P w = .ok (.value (.bool ao.isNone)) w := by
    generalize a.eval = ρ at hv hvy ⊢
    simp [execOp, hv, hvy, eqGuard, go_sem, Lib.run_eql_slice_nil w t e ao n c 0 0 ht]
  unfold Oper.wp
  rw [hr]
  refine ⟨F, _, _, hR.put hd rfl, Nat.le_refl _, fun _ hb _ => hb, fun _ _ _ => rfl, hk ao.isNone fun h => ?_⟩
  have h0 : ao = none := by simpa using h
  have h1 := hsl.nil h0
  have h2 := hsl.cap
  have h3 := hsl.length
  exact List.eq_nil_of_length_eq_zero (by omega)

/-- x[:n:n], all of it. -/
theorem WT_clip {α : Type} {E : Enc α} {l : List α} {t e : TypeId} {x z q : Operand} {k k2 : IntKind} {a1 a2 : Int} {lo hi bt : Nat} {zv : Value} (hx : ev env x = some (isl E l)) (hy : ev env z = some (exI k a1)) (hz : ev env q = some (exI k2 a2)) [e1 : Nt a1 lo] [e2 : Nt a2 hi] (ht : C.P.underlying t = some (.slice e)) [hT : TI C.P e E.size bt zv] (h1 : lo = l.length := by first | rfl | omega) (h2 : hi = l.length := by first | rfl | omega) :
    WT C S ⟨dst, .slice t x none (some z) (some q), ty, pos, af, g⟩ (islc E l) env loc := by
  constructor
  intro F a w hR
  obtain ⟨ti, hi', hsz, _, _⟩ := hT.out
  obtain ⟨rfl⟩ := e1; obtain ⟨rfl⟩ := e2
  subst h1 h2
  obtain ⟨ao, n, c, hv, hs⟩ := ev_eval hR hx
  have hvy : a.eval z = .int k l.length := ev_eval hR hy
  have hvz : a.eval q = .int k2 l.length := ev_eval hR hz
  have hn := hs.length
  have hc := hs.cap
  have h := Sl.sub hs 0 l.length l.length (by omega) (by omega) (by omega) (by omega)
  rw [List.drop_zero, List.take_of_length_le (Nat.le_refl _)] at h
  refine ⟨_, ⟨_, rfl, h⟩, fun _ _ => ?_⟩
  generalize a.eval = ρ at hv hvy hvz ⊢
  simp [execOp, hv, hvy, hvz, Instr.sliceAt, run_und ht, Instr.slice, Instr.sliceBounds, run_bound (show l.length ≤ c by omega), run_siz hi', hsz, go_sem]

/-- A growing row is owned no more, from here on. -/
theorem Leads_fvec {k T n t : Nat} {v : Value} {ps : List SP} {α : Type} {E : Enc α} {fs : α → List SP} (l : List α) (ht : look t env = some (ex v)) (he : loc[k]? = some (vec v T E.size n ps)) [hE : Fits E fs] (hps : ps = l.flatMap fs) (hn : l.length = n) (hf0 : ∀ a, (fs a).length = E.size := by exact fun _ => rfl) (hpos : 0 < E.size := by first | decide | exact Nat.zero_lt_succ _) (hby : n * E.bytes ≤ 140737488355328 := by first | omega | (simp only [eSl, eByte]; omega)) : Leads C env loc ((t, isl E l) :: env) (loc.eraseIdx k) := by
  have hk := List.getElem?_eq_some_iff.1 he
  have e1 : loc = loc.take k ++ vec v T E.size n ps :: loc.drop (k + 1) := by
    conv => lhs; rw [← List.take_append_drop k loc]
    rw [List.drop_eq_getElem_cons hk.1, hk.2]
  have e2 : loc.eraseIdx k = loc.take k ++ loc.drop (k + 1) := List.eraseIdx_eq_take_drop_succ _ _
  rw [e2]
  conv => arg 3; rw [e1]
  exact Leads_freeze_vec hE hf0 hps hn hpos hby ht
theorem WPL_fvec {ops : Array Oper} {Q : Post} {ol : List Oper} {k T n t : Nat} {v : Value} {ps : List SP} {α : Type} {E : Enc α} {fs : α → List SP} (l : List α) (ht : look t env = some (ex v)) (he : loc[k]? = some (vec v T E.size n ps)) [hE : Fits E fs] (hps : ps = l.flatMap fs) (hn : l.length = n) (h : WPL C ops Q ol ((t, isl E l) :: env) (loc.eraseIdx k)) (hf0 : ∀ a, (fs a).length = E.size := by exact fun _ => rfl) (hpos : 0 < E.size := by first | decide | exact Nat.zero_lt_succ _) (hby : n * E.bytes ≤ 140737488355328 := by first | omega | (simp only [eSl, eByte]; omega)) : WPL C ops Q ol env loc := WPL_leads (Leads_fvec l ht he hps hn hf0 hpos hby) h
/-- A row is owned no more, from here on. -/
theorem Leads_frow {k b T n c t tot : Nat} {ps : List SP} {α : Type} {E : Enc α} {fs : α → List SP} (l : List α) (ht : look t env = some (ex (.slice (some ⟨b, 0, none⟩) n c))) (he : loc[k]? = some (row b T tot ps)) [hE : Fits E fs] (hps : ps = l.flatMap fs) (hn : l.length = n) (htot : tot = c * E.size := by first | rfl | omega) (hc : c ≤ maxLen := by first | assumption | omega | (simp only [maxLen]; omega)) (hf0 : ∀ a, (fs a).length = E.size := by exact fun _ => rfl) (hpos : 0 < E.size := by first | decide | exact Nat.zero_lt_succ _) (hby : n * E.bytes ≤ 140737488355328 := by first | omega | (simp only [eSl, eByte]; omega)) : Leads C env loc ((t, isl E l) :: env) (loc.eraseIdx k) := by
  have hk := List.getElem?_eq_some_iff.1 he
  have e1 : loc = loc.take k ++ row b T tot ps :: loc.drop (k + 1) := by
    conv => lhs; rw [← List.take_append_drop k loc]
    rw [List.drop_eq_getElem_cons hk.1, hk.2]
  have e2 : loc.eraseIdx k = loc.take k ++ loc.drop (k + 1) := List.eraseIdx_eq_take_drop_succ _ _
  rw [e2]
  conv => arg 3; rw [e1]
  exact Leads_freeze hE hf0 hps hn htot hpos hc hby ht
theorem WPL_frow {ops : Array Oper} {Q : Post} {ol : List Oper} {k b T n c t tot : Nat} {ps : List SP} {α : Type} {E : Enc α} {fs : α → List SP} (l : List α) (ht : look t env = some (ex (.slice (some ⟨b, 0, none⟩) n c))) (he : loc[k]? = some (row b T tot ps)) [hE : Fits E fs] (hps : ps = l.flatMap fs) (hn : l.length = n) (h : WPL C ops Q ol ((t, isl E l) :: env) (loc.eraseIdx k)) (htot : tot = c * E.size := by first | rfl | omega) (hc : c ≤ maxLen := by first | assumption | omega | (simp only [maxLen]; omega)) (hf0 : ∀ a, (fs a).length = E.size := by exact fun _ => rfl) (hpos : 0 < E.size := by first | decide | exact Nat.zero_lt_succ _) (hby : n * E.bytes ≤ 140737488355328 := by first | omega | (simp only [eSl, eByte]; omega)) : WPL C ops Q ol env loc := WPL_leads (Leads_frow l ht he hps hn htot hc hf0 hpos hby) h
/-- b is a, computed. -/
structure Nf {α : Type} (a b : α) : Prop where
  h : b = a
/-- A struct literal, its cells one by one. -/
theorem WT_build2 {t : TypeId} {parts : Array (Nat × Operand)} {fs : Array Field} {places : List (Nat × Nat)} {pq : List (Nat × List SP)} {sz bt : Nat} {z : Value} {qs : List SP} (ht : C.P.underlying t = some (.struct fs)) [hT : TI C.P t sz bt z] (hpl : fs.toList.mapM (fun f => (C.P.info? f.type).map fun i => (f.offset, i.size)) = some places) (hp : PartsO env (places.toArray[·]?) parts.toList pq) (hq : Nf (fillC (z.cells.toList.map ex) pq) qs := by simp only [fillC, putC, Value.cells, List.foldl_cons, List.foldl_nil, List.map_cons, List.map_nil, List.length_cons, List.length_nil, Nat.zero_add, Nat.reduceAdd, List.take_succ_cons, List.take_zero, List.drop_succ_cons, List.drop_zero, List.nil_append, List.cons_append, List.drop_nil, List.take_nil, List.set_cons_zero, List.set_cons_succ]; exact ⟨rfl⟩) (hle : pq.all (fun x => Nat.ble (x.1 + x.2.length) z.cells.size) = true := by rfl) :
    WT C S ⟨dst, .build t parts, ty, pos, af, g⟩ (agg qs) env loc := hq.h ▸ WT_build ht hpl hp hle
/-- A struct that is loaded, its cells one by one. -/
theorem WT_loada2 {qs : List SP} {t : TypeId} {x : Operand} {k b off T tot : Nat} {ps : List SP} {d : TypeDesc} {sz bt : Nat} {z : Value} (hx : ev env x = some (ex (.pointer (some ⟨b, off, none⟩)))) (he : loc[k]? = some (row b T tot ps)) (hu : C.P.underlying t = some d) [hT : TI C.P t sz bt z] (hH : H b := by first | trivial | exact feet_row (k := 0) rfl | exact feet_row (k := 1) rfl | exact feet_row (k := 2) rfl | exact feet_row (k := 3) rfl | exact feet_row (k := 4) rfl | exact feet_row (k := 5) rfl | exact feet_row (k := 6) rfl | exact feet_row (k := 7) rfl | exact feet_row (k := 8) rfl) (hd : Desc.aggB d = true := by rfl) (hl : Nat.ble (off + sz) ps.length = true := by rfl) (hq : Nf ((ps.drop off).take sz) qs := by simp only [fillC, putC, Value.cells, List.foldl_cons, List.foldl_nil, List.map_cons, List.map_nil, List.length_cons, List.length_nil, Nat.zero_add, Nat.reduceAdd, List.take_succ_cons, List.take_zero, List.drop_succ_cons, List.drop_zero, List.nil_append, List.cons_append, List.drop_nil, List.take_nil, List.set_cons_zero, List.set_cons_succ]; exact ⟨rfl⟩) :
    WT C (Hold H) ⟨dst, .load t x, ty, pos, af, g⟩ (agg qs) env loc := hq.h ▸ WT_loada hx he hu hH hd hl
end
/-- The next operation is a store. -/
theorem at_store {C : Cx} {ops : Array Oper} {Q : Post} {t : TypeId} {x y : Operand} {d : Option Nat} {ty : TypeId} {pos : String} {af : Array Edge} {g : Option (Nat × Bool)} {rest : List Oper} {env : Env} {loc : List Ent} (h : WPL C ops Q (⟨d, .store t x y, ty, pos, af, g⟩ :: rest) env loc) : WPL C ops Q (⟨d, .store t x y, ty, pos, af, g⟩ :: rest) env loc := h
theorem flat_isl {α : Type} {E : Enc α} {l : List (List α)} {b : List α} : l.flatMap (slV E) ++ [isl E b] = (l ++ [b]).flatMap (slV E) := by simp [slV]
theorem map_isl {α : Type} {E : Enc α} {l : List (List α)} {b : List α} : l.map (isl E) ++ [isl E b] = (l ++ [b]).flatMap (slV E) := by rw [flat_slV]; simp
/-- What is known of one value is known of the other. -/
def Im (p q : SP) : Prop := ∀ F w v, p.rel F w v → q.rel F w v
theorem Im.refl (p : SP) : Im p p := fun _ _ _ h => h
inductive Ims : List SP → List SP → Prop
  | nil : Ims [] []
  | cons {p q : SP} {ps qs : List SP} (h : Im p q) (k : Ims ps qs) : Ims (p :: ps) (q :: qs)
theorem Ims.cells {ps qs : List SP} (h : Ims ps qs) {F : Nat → Prop} {w : World} : ∀ {cs : List Value}, CellsR F w ps cs → CellsR F w qs cs := by
  induction h with
  | nil => exact fun h => h
  | @cons p q ps qs h k ih =>
    intro cs hc
    match cs, hc with
    | [], hc => have := hc.len; simp at this
    | c :: cs, hc =>
      refine .cons (h _ _ _ ?_) (ih ⟨by have := hc.len; simpa using this, fun i r hr => ?_⟩)
      · obtain ⟨v, h1, h2⟩ := hc.at_ 0 p rfl
        simp at h1
        exact h1 ▸ h2
      · obtain ⟨v, h1, h2⟩ := hc.at_ (i + 1) r (by simpa using hr)
        exact ⟨v, by simpa using h1, h2⟩
theorem Ims.refl : ∀ (ps : List SP), Ims ps ps
  | [] => .nil
  | p :: ps => .cons (.refl p) (Ims.refl ps)
theorem Ims.agg {ps qs : List SP} (h : Ims ps qs) : Im (agg ps) (agg qs) := fun _ _ _ ⟨cs, h1, h2⟩ => ⟨cs, h1, h.cells h2⟩
theorem Ims.tup {ps qs : List SP} (h : Ims ps qs) : Im (tup ps) (tup qs) := fun _ _ _ ⟨cs, h1, h2⟩ => ⟨cs, h1, h.cells h2⟩
theorem Im.nil {α : Type} {E : Enc α} : Im (ex (.slice none 0 0)) (isl E ([] : List α)) := fun _ _ _ h => by
  have h' : _ = _ := h
  exact ⟨none, 0, 0, h', Sl_nil⟩
theorem Im.clip {α : Type} {E : Enc α} {l : List α} : Im (islc E l) (isl E l) := fun _ _ _ ⟨a, h1, h2⟩ => ⟨a, _, _, h1, h2⟩

/-- Back from a function, what is known of the result made weaker. -/
theorem retw {C : Cx} {fn : Func} {R : SP → List Ent → Prop} {env : Env} {loc loc' : List Ent} {p q : SP} (h : ∀ F a w, Rel C F env loc a w → ∃ F' v p' loc'', (results fn a.tmps).run C.P w = .ok v w ∧ (p' = p ∧ loc'' = loc') ∧ p'.rel F' w v ∧ Good F' (loc'' ++ C.out) w ∧ (∀ b, C.F0 b → b < C.w0.heap.size → F' b) ∧ ∀ e ∈ loc'', ∀ b ∈ e.foot, C.w0.heap.size ≤ b ∨ C.X b) (hi : Im p q) (hR : R q loc') : ∀ F a w, Rel C F env loc a w → ∃ F' v p loc', (results fn a.tmps).run C.P w = .ok v w ∧ R p loc' ∧ p.rel F' w v ∧ Good F' (loc' ++ C.out) w ∧ (∀ b, C.F0 b → b < C.w0.heap.size → F' b) ∧ ∀ e ∈ loc', ∀ b ∈ e.foot, C.w0.heap.size ≤ b ∨ C.X b := by
  intro F a w hRel
  obtain ⟨F', v, p', loc'', h1, ⟨rfl, rfl⟩, h3, h4⟩ := h F a w hRel
  exact ⟨F', v, q, loc'', h1, hR, hi _ _ _ h3, h4⟩
end Go.Fr

/- Ranges over a function: iterators, their rounds, and the statement, in the frame. No program in sight. -/
namespace Go.Fr
open Go.RowKit Go.Kx

/-! ### Code in a round's frame -/

def Calm (Fe : Fence) : Prop := Fe = Fence.wide ∨ ∃ l, Fe = Fence.wide.inRound l
theorem Calm.fn {Fe : Fence} (h : Calm Fe) (f : FuncId) : Fe.fn f := by rcases h with rfl | ⟨l, rfl⟩ <;> trivial
theorem Calm.depth {Fe : Fence} (h : Calm Fe) : Fe.depth = none := by rcases h with rfl | ⟨l, rfl⟩ <;> rfl
theorem Calm.calls {Fe : Fence} (h : Calm Fe) {n : Nat} {P : Program} {f : FuncId} {args : Array Value} {w : World} {R : Ending → World → Prop} (k : Calls P f args w R) : CallsIn Fe n P f args w R := by
  rcases h with rfl | ⟨l, rfl⟩
  · exact callsIn_wide.2 k
  · exact CallsIn.inRound l (callsIn_wide.2 k)

theorem in_of_wp {Fe : Fence} (hFe : Calm Fe) {n : Nat} {P : Program} {o : Oper} {a : Act} {w : World} {K : Act → World → Prop} {Q : Exit → Act → World → Prop} (hd : ∀ c, o.op ≠ .defer c) (h : o.wp P a w K (fun _ _ _ => False)) : o.wpIn Fe n P a w K Q := by
  refine ⟨fun f _ => hFe.fn f, ?_⟩
  rw [Oper.semAt_plain Fe _ _ hd]
  unfold Oper.wp at h
  generalize (execOp a.eval o).run P w = r at h ⊢
  have hdep : Fe.depth.isSome = true → 1 ≤ n := by rw [hFe.depth]; simp
  cases r with
  | ok nx w' =>
    cases nx <;> simp only [Oper.upon] at h <;> simp only [Oper.uponIn] <;>
      first
        | exact h
        | exact ⟨hdep, hFe.calls (Calls.mono h fun e w'' he => by cases e <;> first | exact he | exact he.elim | (obtain ⟨_, _, hf⟩ := he; exact hf.elim))⟩
        | exact ⟨hdep, by rcases hFe with rfl | ⟨l, rfl⟩ <;> exact fun c cs _ => let ⟨v, w', r, s⟩ := h c cs; ⟨v, w', r, stepsIn_wide.2 s⟩⟩
  | halt x w' => cases x <;> simp only [Oper.upon] at h <;> exact h.elim

structure WPI (C : Cx) (Fe : Fence) (n : Nat) (ops : Array Oper) (Q : Post) (l : List Oper) (env : Env) (loc : List Ent) : Prop where
  out : ∀ F a w, Rel C F env loc a w → wpListIn Fe n C.P ops (lift C Q) l a w
structure WPC (C : Cx) (Fe : Fence) (n : Nat) (c : Code) (Q : Post) (env : Env) (loc : List Ent) : Prop where
  out : ∀ F a w, Rel C F env loc a w → c.wpIn Fe n C.P (lift C Q) a w

theorem WPI_nil {C : Cx} {Fe : Fence} {n : Nat} {ops : Array Oper} {Q : Post} {env : Env} {loc : List Ent} (h : Q .normal env loc) : WPI C Fe n ops Q [] env loc := ⟨fun F _ _ hR => ⟨F, env, loc, hR, h⟩⟩
theorem WPI_leads {C : Cx} {Fe : Fence} {n : Nat} {ops : Array Oper} {Q : Post} {l : List Oper} {env env' : Env} {loc loc' : List Ent} (hl : Leads C env loc env' loc') (h : WPI C Fe n ops Q l env' loc') : WPI C Fe n ops Q l env loc := ⟨fun F a w hR => let ⟨F', hR'⟩ := hl F a w hR; h.out F' a w hR'⟩
theorem WPI_op {C : Cx} {Fe : Fence} {n : Nat} {H : Nat → Prop} {ops : Array Oper} {Q : Post} {o : Oper} {rest : List Oper} {env : Env} {loc : List Ent} (hFe : Calm Fe) (hd : ∀ c, o.op ≠ .defer c) (hg : o.guard = none) (h : WO C H o (fun env loc => WPI C Fe n ops Q rest env loc) env loc) : WPI C Fe n ops Q (o :: rest) env loc := by
  constructor
  intro F a w hR
  unfold wpListIn
  rw [if_pos (by simp [Region.wanted, hg])]
  exact in_of_wp hFe hd (upon_mono (fun a' w' ⟨F', env', loc', hR', _, _, _, hk⟩ => hk.out F' a' w' hR') (fun _ _ _ hf => hf) (h.out F a w hR))
theorem WPI_t {C : Cx} {Fe : Fence} {n : Nat} {ops : Array Oper} {Q : Post} {d : Nat} {op : Op} {ty : TypeId} {pos : String} {af : Array Edge} {rest : List Oper} {env : Env} {loc : List Ent} {p : SP} (hFe : Calm Fe) (hdf : ∀ c, op ≠ .defer c)
    (h : WT C (Hold fun _ => True) ⟨some d, op, ty, pos, af, none⟩ p env loc) (hd : Nat.blt d C.N = true) (hk : WPI C Fe n ops Q rest ((d, p) :: env) loc) : WPI C Fe n ops Q (⟨some d, op, ty, pos, af, none⟩ :: rest) env loc :=
  WPI_op (H := fun _ => False) hFe hdf rfl (WO_t h hd hk)
theorem WPC_region {C : Cx} {Fe : Fence} {n id : Nat} {l : List Oper} {Q : Post} {env : Env} {loc : List Ent} (h : WPI C Fe n l.toArray Q l env loc) : WPC C Fe n (.region id l.toArray false) Q env loc := ⟨fun F a w hR => wpIn_region_lit (h.out F a w hR)⟩
theorem WPC_block {C : Cx} {Fe : Fence} {n id : Nat} {c : Code} {Q : Post} {env : Env} {loc : List Ent} (h : WPC C Fe n c (fun e env loc => e = .normal ∧ Q .normal env loc) env loc) : WPC C Fe n (.block id c) Q env loc := by
  refine ⟨fun F a w hR => wpIn_block (wpIn_mono (h.out F a w hR) ?_)⟩
  rintro e a' w' ⟨F', env', loc', hR', rfl, hq⟩
  exact ⟨F', env', loc', hR', hq⟩
theorem WP_regionI {C : Cx} {n id : Nat} {l : List Oper} {Q : Post} {env : Env} {loc : List Ent} (h : WPI C Fence.wide n l.toArray Q l env loc) : WP C (.region id l.toArray false) Q env loc := ⟨fun F a w hR => wpIn_wide.1 (wpIn_region_lit (h.out F a w hR))⟩
theorem WP_label {C : Cx} {l : Nat} {Q : Post} {env : Env} {loc : List Ent} (h : Q .normal env loc) : WP C (.label l) Q env loc := ⟨fun F _ _ hR => wp_label ⟨F, env, loc, hR, h⟩⟩
def noGotoP (Q : Post) : Post
  | .goto _, _, _ => False
  | e, env, loc => Q e env loc
theorem WP_scope {C : Cx} {c : Code} {Q : Post} {env : Env} {loc : List Ent} (h : WP C c (noGotoP Q) env loc) : WP C (.scope c) Q env loc := by
  refine ⟨fun F a w hR => wp_scope_straight (Code.wp_mono ?_ (h.out F a w hR))⟩
  rintro e a' w' ⟨F', env', loc', hR', hq⟩
  cases e <;> first | exact hq.elim | exact ⟨F', env', loc', hR', hq⟩

/-! ### Yield -/

/-- A call of yield for the loop l: it says go on, and leads from A to B. -/
def YieldC (P : Program) (l : Nat) (args : List SP) (A B : List Ent → Prop) : Prop := ∀ m F w vals inn out, A inn → Good F (inn ++ out) w → CellsR F w args vals →
  YieldAt Fence.wide m P l vals.toArray w (fun e w' => e = .returned (.bool true) ∧ ∃ F' loc', B loc' ∧ Good F' (loc' ++ out) w' ∧ Ch (footX inn) w w' ∧ (∀ b, F b → b < w.heap.size → F' b) ∧ ∀ e ∈ loc', ∀ b ∈ e.foot, w.heap.size ≤ b ∨ footX inn b)

theorem WPI_yield {C : Cx} {n l d : Nat} {ops : Array Oper} {Q : Post} {ty : TypeId} {pos : String} {af : Array Edge} {rest : List Oper} {env : Env} {loc : List Ent} {x : Operand} {xs : Array Operand} {ts : Array TypeId} {args : List SP} {A B : List Ent → Prop} (hx : ev env x = some (ex (.func (.yield l) #[] #[]))) (hc : YieldC C.P l args A B) (ha : xs.toList.map (ev env) = args.map some) (hA : A loc) (hk : ∀ loc', B loc' → WPI C Fence.wide n ops Q rest ((d, exB true) :: env) loc') (hd : Nat.blt d C.N = true := by rfl) : WPI C Fence.wide n ops Q (⟨some d, .call ⟨.value x, xs, ts⟩, ty, pos, af, none⟩ :: rest) env loc := by
  constructor
  intro F a w hR
  unfold wpListIn
  rw [if_pos (by simp [Region.wanted])]
  refine ⟨fun _ _ => trivial, ?_⟩
  rw [Oper.semAt_plain Fence.wide _ _ (fun c h => by cases h)]
  obtain ⟨fn, tmps, assign, body, hy, hr⟩ := hc (n - 1) F w _ loc C.out hA hR.good (call_cells hR ha)
  have hv : a.eval x = .func (.yield l) #[] #[] := ev_eval hR hx
  have hrun : (execOp a.eval ⟨some d, .call ⟨.value x, xs, ts⟩, ty, pos, af, none⟩).run C.P w = .ok (.round l fn tmps assign body) w := by
    generalize a.eval = ρ at hv hy ⊢
    have e : (xs.toList.map ρ).toArray = xs.map ρ := by rw [← Array.toList_map]
    rw [e] at hy
    simp [execOp, resolve, invoke, go_sem, hv, hy]
  rw [hrun]
  refine ⟨by simp [Fence.wide], hr.mono ?_⟩
  rintro e w' ⟨rfl, F', loc', hB, hG, hch, hgr, hown⟩
  have hnot : ∀ b, F b → ¬ footX loc b := fun b hb ⟨e, he, hbe⟩ => (hR.good.lt e (List.mem_append_left _ he) b hbe).2 hb
  refine (hk loc' hB).out F' _ w' (hR.next hG (fun b hb hlt => ⟨hgr b hb hlt, hch.block b hlt (hnot b hb)⟩) (hR.ch.trans hch (fun _ _ h => h) fun b hb ⟨e, he, hbe⟩ => ?_) (fun e he b hb => ?_) hd rfl)
  · exact (hR.own e he b hbe).elim (fun h => absurd hb (by omega)) id
  · rcases hown e he b hb with h | ⟨e', he', hb'⟩
    · exact .inl (Nat.le_trans hR.ch.size h)
    · exact hR.own e' he' b hb'

/-! ### Closures -/

/-- A function with what it has captured. -/
def clo (f : FuncId) (cs : List SP) : SP := ⟨fun F w v => ∃ vs : List Value, v = .func (.func f) #[] vs.toArray ∧ CellsR F w cs vs, fun ⟨vs, h1, h2⟩ hk => ⟨vs, h1, h2.mono hk⟩⟩

theorem Leads_clo {C : Cx} {env : Env} {l1 l2 : List Ent} {b T tot t : Nat} {ps : List SP} {f : FuncId} (ht : look t env = some (ex (.func (.func f) #[] #[.pointer (some ⟨b, 0, none⟩)]))) : Leads C env (l1 ++ row b T tot ps :: l2) ((t, clo f [fp ps]) :: env) (l1 ++ l2) := by
  intro F a w hR
  have hmem : row b T tot ps ∈ (l1 ++ row b T tot ps :: l2) ++ C.out := by simp
  obtain ⟨cur, h1, h2, h3⟩ := hR.good.rel _ hmem
  have hb := hR.good.lt _ hmem b (by simp [row])
  have hm : ∀ k, F k → k < w.heap.size → (F k ∨ k = b) ∧ w.heap[k]? = w.heap[k]? := fun k hk _ => ⟨.inl hk, rfl⟩
  have hsub : (l1 ++ l2 ++ C.out).Sublist ((l1 ++ row b T tot ps :: l2) ++ C.out) := ((List.Sublist.refl l1).append (List.sublist_cons_self _ _)).append (List.Sublist.refl _)
  have hdis : ∀ e ∈ l1 ++ l2 ++ C.out, b ∉ e.foot := by
    intro e he hbe
    have hd := hR.good.disj
    rw [List.append_assoc, List.cons_append] at hd
    rw [List.append_assoc] at he
    have hd2 := List.pairwise_append.1 hd
    rcases List.mem_append.1 he with he | he
    · exact hd2.2.2 e he _ List.mem_cons_self b hbe (by simp [row])
    · exact (List.pairwise_cons.1 hd2.2.1).1 e he b (by simp [row]) hbe
  refine ⟨fun k => F k ∨ k = b, ⟨fun e he => e.mono (hR.good.rel e (hsub.subset he)) hm fun _ _ => rfl, fun e he k hk => ⟨(hR.good.lt e (hsub.subset he) k hk).1, ?_⟩, hR.good.disj.sublist hsub⟩, fun t' q hq => ?_, hR.size, hR.defers, hR.ch, fun e he => hR.own e ?_, fun k hk hlt => .inl (hR.grow k hk hlt)⟩
  · rintro (h | rfl)
    · exact (hR.good.lt e (hsub.subset he) k hk).2 h
    · exact hdis e he hk
  · rw [look_cons] at hq
    split at hq
    · rename_i e; cases hq; subst e
      have hv : a.tmps.getD t' undef = .func (.func f) #[] #[.pointer (some ⟨b, 0, none⟩)] := hR.env _ _ ht
      rw [hv]
      refine ⟨[.pointer (some ⟨b, 0, none⟩)], rfl, .cons ⟨b, 0, rfl, .inr rfl, hb.1, fun i p hp => ?_⟩ .nil⟩
      obtain ⟨v, h4, h5⟩ := h3 i p hp
      exact ⟨v, by simp [World.cell?, h1, h4], p.mono h5 hm⟩
    · exact q.mono (hR.env t' q hq) hm
  · rcases List.mem_append.1 he with h | h
    · exact List.mem_append_left _ h
    · exact List.mem_append_right _ (List.mem_cons_of_mem _ h)

/-! ### Iterators -/

/-- The iterator g hands x1, x2, .. to yield, and then ends. -/
def GenC {α : Type} (P : Program) (g : FuncId) (lb : List SP) (encs : α → List SP) (xs : List α) : Prop := ∀ (l : Nat) (St : List α → List Ent → Prop) (loc0 : List Ent), St [] loc0 →
  (∀ pre x, (pre ++ [x]) <+: xs → YieldC P l (encs x) (St pre) (St (pre ++ [x]))) → FnC P g (ex (.func (.yield l) #[] #[]) :: lb) loc0 (fun _ loc' => St xs loc')

/-! ### The statement -/

/-- The record of a loop; and what was readable as it began is so still. -/
def loopE (l : Nat) (rec : Loop) (Fe : Nat → Prop) (we : World) : Ent where
  foot := [l]
  rel S w := w.heap[l]? = some (.loop rec) ∧ ∀ b, Fe b → b < we.heap.size → S b ∧ w.heap[b]? = we.heap[b]?
  mono := by
    rintro S S' w w' ⟨h1, h2⟩ hk hf
    refine ⟨(hf l (by simp)).trans h1, fun b hb hl => ?_⟩
    obtain ⟨h3, h4⟩ := h2 b hb hl
    have hlt : b < w.heap.size := by
      rw [Array.getElem?_eq_getElem hl] at h4
      exact (Array.getElem?_eq_some_iff.1 h4).1
    obtain ⟨h5, h6⟩ := hk b h3 hlt
    exact ⟨h5, h6.trans h4⟩
/-- A mark among the deferred calls. -/
def markE (D : Nat) : Ent where
  foot := [D]
  rel _ w := w.heap[D]? = some (.deferred (some []))
  mono h _ hf := (hf D (by simp)).trans h

abbrev Cx.mark (C : Cx) (D : Nat) : Cx := { C with out := markE D :: C.out, dfs := { target := .collected D, args := #[] } :: C.dfs }

theorem Ch.put {X : Nat → Prop} {w : World} {l : Nat} {o : Obj} (h : X l) : Ch X w (w.putObj l o) := ⟨rfl, rfl, rfl, by simp, fun k _ hx => World.putObj_heap_other fun e => hx (e ▸ h)⟩
theorem Ch.new {X : Nat → Prop} {w : World} {o : Obj} : Ch X w (w.alloc o) := ⟨rfl, rfl, rfl, by simp, fun k hk _ => Below.heap_alloc _ _ _ hk⟩

/-- One block that is owned by the first is turned. -/
theorem Good.put {F : Nat → Prop} {e e' : Ent} {L : List Ent} {w : World} {l : Nat} {o : Obj} (h : Good F (e :: L) w) (h1 : e.foot = [l]) (h2 : e'.foot = [l]) (hr : (∀ b, b ≠ l → (w.putObj l o).heap[b]? = w.heap[b]?) → (w.putObj l o).heap[l]? = some o → e'.rel F (w.putObj l o)) : Good F (e' :: L) (w.putObj l o) := by
  have hlt := h.lt e List.mem_cons_self l (by rw [h1]; simp)
  have hoth : ∀ b, b ≠ l → (w.putObj l o).heap[b]? = w.heap[b]? := fun b hb => World.putObj_heap_other hb
  have hp := List.pairwise_cons.1 h.disj
  have hdis : ∀ x ∈ L, ∀ b ∈ x.foot, b ≠ l := fun x hx b hb e' => hp.1 x hx l (by rw [h1]; simp) (e' ▸ hb)
  refine ⟨fun x hx => ?_, fun x hx b hb => ?_, List.pairwise_cons.2 ⟨fun x hx b hb => ?_, hp.2⟩⟩
  · rcases List.mem_cons.1 hx with rfl | hx
    · exact hr hoth (World.putObj_heap_same hlt.1)
    · exact x.mono (h.rel x (List.mem_cons_of_mem _ hx)) (fun b hb _ => ⟨hb, hoth b fun e' => hlt.2 (e' ▸ hb)⟩) fun b hb => hoth b (hdis x hx b hb)
  · rw [World.putObj_size]
    rcases List.mem_cons.1 hx with rfl | hx
    · rw [h2] at hb; simp at hb; subst hb; exact hlt
    · exact h.lt x (List.mem_cons_of_mem _ hx) b hb
  · rw [h2] at hb; simp at hb; subst hb
    exact hp.1 x hx b (by rw [h1]; simp)

/-- A block is laid, owned by e. -/
theorem Good.lay {F : Nat → Prop} {e : Ent} {L : List Ent} {w : World} {o : Obj} (h : Good F L w) (hF : ∀ b, F b → b < w.heap.size) (h1 : e.foot = [w.heap.size]) (hr : e.rel F (w.alloc o)) : Good F (e :: L) (w.alloc o) := by
  refine ⟨fun x hx => ?_, fun x hx b hb => ?_, List.pairwise_cons.2 ⟨fun x hx b hb => ?_, h.disj⟩⟩
  · rcases List.mem_cons.1 hx with rfl | hx
    · exact hr
    · exact x.mono (h.rel x hx) (fun b hb hl => ⟨hb, Below.heap_alloc _ _ _ hl⟩) fun b hb => Below.heap_alloc _ _ _ (h.lt x hx b hb).1
  · rw [World.size_alloc]
    rcases List.mem_cons.1 hx with rfl | hx
    · rw [h1] at hb; simp at hb; subst hb; exact ⟨by omega, fun h => absurd (hF _ h) (by omega)⟩
    · exact ⟨by have := (h.lt x hx b hb).1; omega, (h.lt x hx b hb).2⟩
  · rw [h1] at hb; simp at hb; subst hb
    exact fun hb => absurd (h.lt x hx _ hb).1 (by omega)

end Go.Fr

/- The statement that ranges over a function, in the frame. No program in sight. -/
namespace Go.Fr
open Go.RowKit Go.Kx

/-- Code that leads to T, which speaks of the activation itself. -/
structure WPR (C : Cx) (c : Code) (T : Exit → Act → World → Prop) (env : Env) (loc : List Ent) : Prop where
  out : ∀ F a w, Rel C F env loc a w → c.wp C.P T a w
def rawP (C : Cx) (T : Exit → Act → World → Prop) : Post := fun e env loc => ∀ F a w, Rel C F env loc a w → T e a w

theorem WPR_seq {C : Cx} {x y : Code} {T : Exit → Act → World → Prop} {env : Env} {loc : List Ent} (h : WP C x (thenP (fun env loc => WPR C y T env loc) (rawP C T)) env loc) : WPR C (.seq x y) T env loc := by
  refine ⟨fun F a w hR => wp_seq (Code.wp_mono ?_ (h.out F a w hR))⟩
  rintro e a' w' ⟨F', env', loc', hR', hq⟩
  cases e with
  | normal => exact (show WPR C y T env' loc' from hq).out F' a' w' hR'
  | _ => exact (show rawP C T _ env' loc' from hq) F' a' w' hR'
theorem WPR_ret {C : Cx} {T : Exit → Act → World → Prop} {env : Env} {loc : List Ent} (h : rawP C T .ret env loc) : WPR C .ret T env loc := ⟨fun F a w hR => wp_ret (h F a w hR)⟩

/-- What a function hands back. -/
def fnR (C0 : Cx) (R : SP → List Ent → Prop) (e : Ending) (w' : World) : Prop := ∃ v F' p loc', e = .returned v ∧ R p loc' ∧ p.rel F' w' v ∧ Good F' (loc' ++ C0.out) w' ∧ Ch C0.X C0.w0 w' ∧ (∀ b, C0.F0 b → b < C0.w0.heap.size → F' b) ∧ ∀ e ∈ loc', ∀ b ∈ e.foot, C0.w0.heap.size ≤ b ∨ C0.X b
abbrev retT (C0 : Cx) (fn : Func) (R : SP → List Ent → Prop) : Exit → Act → World → Prop := bodyPostM Fence.wide 5 C0.P fn (fnR C0 R)

theorem FnC_enterM {P : Program} {f : FuncId} {fn : Func} {c : Code} {args : List SP} {inn : List Ent} {R : SP → List Ent → Prop} {N : Nat} (hf : P.funcs[f]? = some fn) (hb : fn.body = some c) (hN : fn.ntmps = N) (hle : Nat.ble args.length N = true)
    (h : ∀ w0 F0 out, WPR ⟨P, w0, F0, footX inn, out, N, []⟩ c (retT ⟨P, w0, F0, footX inn, out, N, []⟩ fn R) (argEnv 0 args) inn) : FnC P f args inn R := by
  intro F w vals out hG hA
  have hle' : args.length ≤ N := Nat.le_of_ble_eq_true hle
  have hsz : vals.length = args.length := hA.len
  refine callsIn_wide.1 (callsIn_of_wp_marks (F := Fence.wide) (n := 5) hf hb trivial (wpIn_wide.2 ((h w F out).out F _ w ⟨hG, ?_, ?_, rfl, Ch.refl _ _, fun e he b hb => .inr ⟨e, he, hb⟩, fun b hb _ => hb⟩)))
  · intro t p hp
    obtain ⟨j, rfl, hj⟩ := look_argEnv hp
    obtain ⟨v, hv, hr⟩ := hA.at_ j p hj
    have hlt : j < vals.length := (List.getElem?_eq_some_iff.1 hv).1
    have hx : (vals.toArray ++ Array.replicate (fn.ntmps - vals.toArray.size) undef).getD (0 + j) undef = v := by
      rw [Nat.zero_add, Array.getD_eq_getD_getElem?, Array.getElem?_append_left (by simpa using hlt)]
      simp [hv]
    rw [hx]; exact hr
  · rw [hN]; simp; omega

/-- Back before any range. -/
theorem raw_ret {C0 : Cx} {fn : Func} {R : SP → List Ent → Prop} {e : Exit} {env : Env} {loc : List Ent} (hd : C0.dfs = []) (h : retP C0 fn R e env loc) : rawP C0 (retT C0 fn R) e env loc := by
  intro F a w hR
  obtain ⟨F', v, p, loc', h1, h2, h3, h4, h5, h6⟩ := h.2 F a w hR
  have hdf : a.defers = [] := hR.defers.trans hd
  have hpost : fnR C0 R (.returned v) w := ⟨v, F', p, loc', rfl, h2, h3, h4, hR.ch, h5, h6⟩
  rcases h.1 with rfl | rfl
  · show LeavesInM _ _ _ _ _ _ a.defers _ _
    rw [hdf]; exact ⟨v, h1, hpost⟩
  · show LeavesInM _ _ _ _ _ _ a.defers _ _
    rw [hdf]; exact ⟨v, h1, hpost⟩

/-- Back behind a range: the mark is taken. -/
theorem raw_ret1 {C0 : Cx} {D : Nat} {fn : Func} {R : SP → List Ent → Prop} {e : Exit} {env : Env} {loc : List Ent} (hd : C0.dfs = []) (hD : C0.w0.heap.size ≤ D) (h : retP C0 fn R e env loc) : rawP (C0.mark D) (retT C0 fn R) e env loc := by
  intro F a w hR
  have hG : Good F (loc ++ (markE D :: C0.out)) w := hR.good
  have hp : (loc ++ (markE D :: C0.out)).Perm (markE D :: (loc ++ C0.out)) := List.perm_middle
  have hG2 := hG.perm hp
  have hm : w.heap[D]? = some (.deferred (some [])) := hG2.rel _ List.mem_cons_self
  have hltD := hG2.lt _ List.mem_cons_self D (by simp [markE])
  have hoth : ∀ b, b ≠ D → (w.putObj D (.deferred none)).heap[b]? = w.heap[b]? := fun b hb => World.putObj_heap_other hb
  have hkeep : ∀ b, F b → b < w.heap.size → F b ∧ (w.putObj D (.deferred none)).heap[b]? = w.heap[b]? := fun b hb _ => ⟨hb, hoth b fun e' => hltD.2 (e' ▸ hb)⟩
  have hG3 : Good F (loc ++ C0.out) (w.putObj D (.deferred none)) := by
    have hpw := List.pairwise_cons.1 hG2.disj
    refine ⟨fun x hx => x.mono (hG2.rel x (List.mem_cons_of_mem _ hx)) hkeep fun b hb => hoth b fun e' => hpw.1 x hx D (by simp [markE]) (e' ▸ hb), fun x hx b hb => ?_, hpw.2⟩
    rw [World.putObj_size]; exact hG2.lt x (List.mem_cons_of_mem _ hx) b hb
  have hR2 : Rel C0 F env loc { a with defers := [] } (w.putObj D (.deferred none)) := by
    refine ⟨hG3, fun t p hp => p.mono (hR.env t p hp) hkeep, hR.size, hd.symm, ?_, hR.own, hR.grow⟩
    exact hR.ch.trans (Ch.put (X := fun b => b = D) rfl) (fun _ _ h => h) fun b hb e' => by have hb' : b < C0.w0.heap.size := hb; omega
  obtain ⟨F', v, p, loc', h1, h2, h3, h4, h5, h6⟩ := h.2 F _ _ hR2
  have hpost : fnR C0 R (.returned v) (w.putObj D (.deferred none)) := ⟨v, F', p, loc', rfl, h2, h3, h4, hR2.ch, h5, h6⟩
  have hdf : a.defers = [{ target := .collected D, args := #[] }] := by rw [hR.defers]; show _ :: C0.dfs = _; rw [hd]
  have key : LeavesInM Fence.wide 5 C0.P fn a.tmps (fnR C0 R) a.defers .returning w := by
    rw [hdf]
    exact ⟨by simp, .inl ⟨D, _, rfl, run_takeDeferred hm, ⟨v, h1, hpost⟩⟩⟩
  rcases h.1 with rfl | rfl <;> exact key

theorem at_range {C : Cx} {id : Nat} {g : Operand} {ps : Array Tmp} {assign body : Code} {T : Exit → Act → World → Prop} {env : Env} {loc : List Ent} (h : WPR C (.block id (.rangeFunc g ps assign body)) T env loc) : WPR C (.block id (.rangeFunc g ps assign body)) T env loc := h
theorem WPR_deep {C : Cx} {id : Nat} {g : Operand} {ps : Array Tmp} {x assign body z : Code} {T : Exit → Act → World → Prop} {env : Env} {loc : List Ent} (h : WPR C (.seq x (.block id (.rangeFunc g ps assign body))) (Exit.then (z.wp C.P T) T) env loc) : WPR C (.seq (.seq x (.block id (.rangeFunc g ps assign body))) z) T env loc := ⟨fun F a w hR => wp_seq (h.out F a w hR)⟩
theorem raw_next {C : Cx} {C' : Cx} {z : Code} {T : Exit → Act → World → Prop} {env : Env} {loc : List Ent} (hP : C'.P = C.P) (h : WPR C' z T env loc) : rawP C' (Exit.then (z.wp C.P T) T) .normal env loc := fun F a w hR => by
  show z.wp C.P T a w
  rw [← hP]; exact h.out F a w hR

/-- The slots of a round. -/
def putE (env : Env) : List Tmp → List SP → Env
  | t :: ts, p :: ps => putE ((t, p) :: env) ts ps
  | _, _ => env

theorem Rel.puts {C : Cx} {F : Nat → Prop} {loc : List Ent} {w : World} : ∀ {ts : List Tmp} {ps : List SP} {vs : List Value} {env : Env} {tm : Array Value}, Rel C F env loc { tmps := tm, defers := [] } w → CellsR F w ps vs → ts.length = ps.length → (∀ t ∈ ts, Nat.blt t C.N = true) → Rel C F (putE env ts ps) loc { tmps := (ts.zip vs).foldl (fun t (p, v) => t.setIfInBounds p v) tm, defers := [] } w
  | [], [], vs, env, tm, h, hc, _, _ => by
    have : vs = [] := List.eq_nil_of_length_eq_zero hc.len
    subst this; exact h
  | t :: ts, p :: ps, [], env, tm, h, hc, _, _ => by have := hc.len; simp at this
  | t :: ts, p :: ps, v :: vs, env, tm, h, hc, hl, hN => by
    obtain ⟨u, h1, h2⟩ := hc.at_ 0 p rfl
    simp at h1; subst h1
    have h3 := h.put (hN t List.mem_cons_self) h2
    exact Rel.puts (ts := ts) (ps := ps) (vs := vs) h3 ⟨by have := hc.len; simpa using this, fun i q hq => by have := hc.at_ (i + 1) q (by simpa using hq); simpa using this⟩ (by simpa using hl) fun t ht => hN t (List.mem_cons_of_mem _ ht)
  | [], _ :: _, _, _, _, _, _, hl, _ => by simp at hl
  | _ :: _, [], _, _, _, _, _, hl, _ => by simp at hl

/-- **for .. := range g { .. }**, whose rounds all go on. -/
theorem WPR_range {α : Type} {C : Cx} {id : Nat} {g : Operand} {ps : Array Tmp} {assign body : Code} {T : Exit → Act → World → Prop} {env : Env} {bl l2 : List Ent} {gf : FuncId} {fng : Func} {cg : Code} {lb : List SP} {encs : α → List SP} (xs : List α) (St : List α → List Ent → Prop) (envA : α → Env → Env)
    (hg : ev env g = some (clo gf lb)) (hf : C.P.funcs[gf]? = some fng) (hbd : fng.body = some cg) (hname : (fng.name == "runtime.NumGoroutine") = false) (hgen : GenC C.P gf lb encs xs) (hps : ∀ x, (encs x).length = ps.size) (hN : ∀ t ∈ ps.toList, Nat.blt t C.N = true) (hS0 : St [] bl)
    (hround : ∀ (Cb : Cx) l m pre x inn, Cb.P = C.P → Cb.N = C.N → (pre ++ [x]) <+: xs → St pre inn → WPC Cb (Fence.wide.inRound l) m assign (fun e env1 loc1 => e = .normal ∧ env1 = envA x (putE env ps.toList (encs x)) ∧ loc1 = inn) (putE env ps.toList (encs x)) inn)
    (hbody : ∀ (Cb : Cx) l m pre x inn, Cb.P = C.P → Cb.N = C.N → (pre ++ [x]) <+: xs → St pre inn → WPC Cb (Fence.wide.inRound l) m body (fun e _ loc' => e = .normal ∧ St (pre ++ [x]) loc') (envA x (putE env ps.toList (encs x))) inn)
    (hrest : ∀ D bl', C.w0.heap.size ≤ D → St xs bl' → rawP (C.mark D) T .normal env (bl' ++ l2)) : WPR C (.block id (.rangeFunc g ps assign body)) T env (bl ++ l2) := by
  constructor
  intro F a w hR
  refine wp_block ((wpIn_wide (n := 5)).1 (wpIn_rangeFunc fun fn _ => ?_))
  obtain ⟨rec, hrec⟩ : ∃ rec : LoopState → Loop, rec = fun st => { state := st, pending := none, fn, tmps := a.tmps, params := ps, assign, body, defers := w.heap.size } := ⟨_, rfl⟩
  obtain ⟨vs, hgv, hlb⟩ : ∃ vs : List Value, a.eval g = .func (.func gf) #[] vs.toArray ∧ CellsR F w lb vs := ev_eval hR hg
  have eg : ∀ args w, (callFunc gf args).run C.P w = .ok (.enter gf args) w := fun args w => by
    have h9 : ¬ fng.name = "runtime.NumGoroutine" := by simpa using hname
    simp [callFunc, hf, hbd, h9, go_sem]
  obtain ⟨Wm, hWm⟩ : ∃ Wm, w.alloc (.deferred (some [])) = Wm := ⟨_, rfl⟩
  obtain ⟨W1, hW1⟩ : ∃ W1, Wm.alloc (.loop (rec .ready)) = W1 := ⟨_, rfl⟩
  have sm : Wm.heap.size = w.heap.size + 1 := by rw [← hWm]; simp
  have s1 : W1.heap.size = w.heap.size + 1 + 1 := by rw [← hW1]; simp [sm]
  -- what is readable as the loop begins: no more than lies there
  have hG0 : Good (fun k => F k ∧ k < w.heap.size) ((bl ++ l2) ++ C.out) w := hR.good.weak
  have hG1 : Good (fun k => F k ∧ k < w.heap.size) (markE w.heap.size :: ((bl ++ l2) ++ C.out)) Wm := by
    rw [← hWm]; exact hG0.lay (fun _ h => h.2) rfl (by show (w.alloc _).heap[w.heap.size]? = _; exact World.alloc_heap_new w _)
  have hk1 : ∀ b, b < w.heap.size → W1.heap[b]? = w.heap[b]? := fun b hb => by
    rw [← hW1, Below.heap_alloc _ _ _ (by omega), ← hWm, Below.heap_alloc _ _ _ hb]
  have hG2 : Good (fun k => F k ∧ k < w.heap.size) (loopE (w.heap.size + 1) (rec .ready) (fun k => F k ∧ k < w.heap.size) w :: markE w.heap.size :: ((bl ++ l2) ++ C.out)) W1 := by
    have h := hG1.lay (e := loopE (w.heap.size + 1) (rec .ready) (fun k => F k ∧ k < w.heap.size) w) (o := .loop (rec .ready)) (fun _ h => by omega) (by rw [sm]; rfl) ⟨by rw [← sm]; exact World.alloc_heap_new Wm _, fun b hb hl => ⟨hb, by rw [hW1]; exact hk1 b hl⟩⟩
    rw [hW1] at h; exact h
  have hcall := hgen (w.heap.size + 1) (fun pre inn => ∃ b0, inn = loopE (w.heap.size + 1) (rec .ready) (fun k => F k ∧ k < w.heap.size) w :: b0 ∧ St pre b0) (loopE (w.heap.size + 1) (rec .ready) (fun k => F k ∧ k < w.heap.size) w :: bl) ⟨bl, rfl, hS0⟩ ?_
    (fun k => F k ∧ k < w.heap.size) W1 (.func (.yield (w.heap.size + 1)) #[] #[] :: vs) (markE w.heap.size :: (l2 ++ C.out)) (hG2.perm ?_) (.cons rfl (hlb.mono fun b hb hl => ⟨⟨hb, hl⟩, hk1 b hl⟩))
  · refine ⟨w.heap.size + 1, [{ target := .collected w.heap.size, args := #[] }], W1, { target := .fn (.func gf) vs.toArray, args := #[.func (.yield (w.heap.size + 1)) #[] #[]] }, W1, gf, #[.func (.yield (w.heap.size + 1)) #[] #[]] ++ vs.toArray, W1, ?_, ?_, fun _ _ => trivial, ?_, by simp [Fence.wide], ?_⟩
    · rw [← hW1, ← hWm, hrec]; exact run_enterLoop_outer _ _ _ _ _
    · simp only [resolve, hgv]
      simp [go_sem]
    · simp [invoke, go_sem, eg]
    · have e1 : (#[.func (.yield (w.heap.size + 1)) #[] #[]] ++ vs.toArray : Array Value) = (.func (.yield (w.heap.size + 1)) #[] #[] :: vs).toArray := by simp
      rw [e1]
      refine callsIn_wide.2 (hcall.mono ?_)
      rintro e w3 ⟨v, F3, p, loc3, rfl, ⟨bl', rfl, hS⟩, _, hG3, hch, hgr, hown⟩
      have hl3 := (hG3.rel _ (List.mem_cons_self)).1
      obtain ⟨o4, hrun⟩ : ∃ o4, (Instr.endLoop (w.heap.size + 1)).run C.P w3 = .ok none (w3.putObj (w.heap.size + 1) o4) := ⟨_, by have := run_endLoop (P := C.P) hl3 (by rw [hrec]; simp); rw [show (rec .ready).pending = none by rw [hrec]] at this; exact this⟩
      refine ⟨none, _, hrun, ?_⟩
      -- behind the loop
      have hlt3 := hG3.lt _ List.mem_cons_self (w.heap.size + 1) (by simp [loopE])
      have hpw := List.pairwise_cons.1 hG3.disj
      have hoth : ∀ b, b ≠ w.heap.size + 1 → (w3.putObj (w.heap.size + 1) o4).heap[b]? = w3.heap[b]? := fun b hb => World.putObj_heap_other hb
      have hkeep : ∀ b, F3 b → b < w3.heap.size → F3 b ∧ (w3.putObj (w.heap.size + 1) o4).heap[b]? = w3.heap[b]? := fun b hb _ => ⟨hb, hoth b fun e' => hlt3.2 (e' ▸ hb)⟩
      have hG4 : Good F3 (bl' ++ (markE w.heap.size :: (l2 ++ C.out))) (w3.putObj (w.heap.size + 1) o4) := by
        refine ⟨fun x hx => x.mono (hG3.rel x (List.mem_cons_of_mem _ hx)) hkeep fun b hb => hoth b fun e' => hpw.1 x hx _ (by simp [loopE]) (e' ▸ hb), fun x hx b hb => ?_, hpw.2⟩
        rw [World.putObj_size]; exact hG3.lt x (List.mem_cons_of_mem _ hx) b hb
      have hDw : C.w0.heap.size ≤ w.heap.size := hR.ch.size
      refine hrest w.heap.size bl' hDw hS F3 _ _ ⟨?_, fun t p hp => p.mono (hR.env t p hp) fun b hb hl => ?_, hR.size, by show _ ++ a.defers = _; rw [hR.defers]; rfl, ?_, fun e he b hb => ?_, fun b hb hl => ?_⟩
      · refine hG4.perm ?_
        show (bl' ++ (markE w.heap.size :: (l2 ++ C.out))).Perm ((bl' ++ l2) ++ (markE w.heap.size :: C.out))
        rw [List.append_assoc]
        exact List.Perm.append_left _ (List.perm_middle.symm)
      · have h1 := hgr b ⟨hb, hl⟩ (by omega)
        refine ⟨h1, (hkeep b h1 ?_).2.trans ((hch.block b (by omega) ?_).trans (hk1 b hl))⟩
        · have := hch.size; omega
        · rintro ⟨e, he, hbe⟩
          rcases List.mem_cons.1 he with rfl | he
          · simp [loopE] at hbe; omega
          · exact (hR.good.lt e (List.mem_append_left _ (List.mem_append_left _ he)) b hbe).2 hb
      · have c1 : Ch C.X w W1 := ⟨by rw [← hW1, ← hWm]; rfl, by rw [← hW1, ← hWm]; rfl, by rw [← hW1, ← hWm]; rfl, by omega, fun k hk _ => hk1 k hk⟩
        refine ((hR.ch.trans c1 (fun _ _ h => h) fun _ _ h => h).trans hch (fun _ _ h => h) ?_).trans (Ch.put (X := fun b => b = w.heap.size + 1) rfl) (fun _ _ h => h) fun b hb e' => ?_
        · rintro b hb ⟨e, he, hbe⟩
          rcases List.mem_cons.1 he with rfl | he
          · simp [loopE] at hbe
            have hb' : b < C.w0.heap.size := hb
            omega
          · exact (hR.own e (List.mem_append_left _ he) b hbe).elim (fun h => absurd hb (by show ¬ b < C.w0.heap.size; omega)) (fun h => h)
        · have hb' : b < C.w0.heap.size := hb
          omega
      · rcases List.mem_append.1 he with he | he
        · rcases hown e (List.mem_cons_of_mem _ he) b hb with h | ⟨e', he', hbe⟩
          · exact .inl (by show C.w0.heap.size ≤ b; omega)
          · rcases List.mem_cons.1 he' with rfl | he'
            · simp [loopE] at hbe
              exact .inl (by show C.w0.heap.size ≤ b; omega)
            · exact hR.own e' (List.mem_append_left _ he') b hbe
        · exact hR.own e (List.mem_append_right _ he) b hb
      · have hl' : b < C.w0.heap.size := hl
        exact hgr b ⟨hR.grow b hb hl, by omega⟩ (by omega)
  · -- one round
    rintro pre x hpre m F1 W vals inn out1 ⟨b0, rfl, hS⟩ hG hcv
    obtain ⟨hl, hbase⟩ := hG.rel _ List.mem_cons_self
    have hlen : vals.length = ps.size := hcv.len.trans (hps x)
    have hy := run_yield (P := C.P) (args := vals.toArray) hl (by rw [hrec]; simpa using hlen)
    rw [show (rec .ready).fn = fn by rw [hrec], show (rec .ready).params = ps by rw [hrec], show (rec .ready).tmps = a.tmps by rw [hrec], show (rec .ready).assign = assign by rw [hrec], show (rec .ready).body = body by rw [hrec]] at hy
    refine ⟨fn, _, assign, body, hy, roundIn_of_wpIn trivial ?_⟩
    clear hy
    have hmid : ∀ {G : Nat → Prop} {e : Ent} {L : List Ent} {V : World}, Good G (e :: (L ++ out1)) V → Good G (L ++ (e :: out1)) V := fun h => h.perm List.perm_middle.symm
    have hmid2 : ∀ {G : Nat → Prop} {e : Ent} {L : List Ent} {V : World}, Good G (L ++ (e :: out1)) V → Good G (e :: (L ++ out1)) V := fun h => h.perm List.perm_middle
    have hR0 : Rel ⟨C.P, W, F1, footX b0, loopE (w.heap.size + 1) (rec .ready) (fun k => F k ∧ k < w.heap.size) w :: out1, C.N, []⟩ F1 env b0 { tmps := a.tmps, defers := [] } W := by
      refine ⟨hmid hG, fun t p hp => p.mono (hR.env t p hp) fun b hb hlt => hbase b ⟨hb, hlt⟩ hlt, hR.size, rfl, Ch.refl _ _, fun e he b hb => .inr ⟨e, he, hb⟩, fun b hb _ => hb⟩
    have hRx := Rel.puts (ts := ps.toList) hR0 hcv (by rw [hps x]; simp) hN
    have htm : (ps.zip vals.toArray).foldl (fun t (p, v) => t.setIfInBounds p v) a.tmps = (ps.toList.zip vals).foldl (fun t (p, v) => t.setIfInBounds p v) a.tmps := by
      rw [← Array.foldl_toList]; simp
    rw [htm]
    have hx1 := (hround ⟨C.P, W, F1, footX b0, loopE (w.heap.size + 1) (rec .ready) (fun k => F k ∧ k < w.heap.size) w :: out1, C.N, []⟩ (w.heap.size + 1) m pre x b0 rfl rfl hpre hS).out F1 _ W hRx
    refine wpIn_mono hx1 ?_
    rintro e a1 w1 ⟨F2, env1, loc1, hR1, rfl, rfl, rfl⟩
    have hG1' := hmid2 hR1.good
    have hl1 := (hG1'.rel _ List.mem_cons_self).1
    refine ⟨_, run_beginRound hl1 (by rw [hrec]), ?_⟩
    obtain ⟨o2, ho2⟩ : ∃ o, o = Obj.loop { rec .ready with state := .busy } := ⟨_, rfl⟩
    rw [← ho2]
    have hlt1 := hG1'.lt _ List.mem_cons_self (w.heap.size + 1) (by simp [loopE])
    have hoth1 : ∀ b, b ≠ w.heap.size + 1 → (w1.putObj (w.heap.size + 1) o2).heap[b]? = w1.heap[b]? := fun b hb => World.putObj_heap_other hb
    have hkeep1 : ∀ b, F2 b → b < w1.heap.size → F2 b ∧ (w1.putObj (w.heap.size + 1) o2).heap[b]? = w1.heap[b]? := fun b hb _ => ⟨hb, hoth1 b fun e' => hlt1.2 (e' ▸ hb)⟩
    have hbase1 := (hG1'.rel _ List.mem_cons_self).2
    have hG2' : Good F2 (loopE (w.heap.size + 1) { rec .ready with state := .busy } (fun k => F k ∧ k < w.heap.size) w :: (loc1 ++ out1)) (w1.putObj (w.heap.size + 1) o2) :=
      hG1'.put rfl rfl fun ho hn => ⟨by rw [hn, ho2], fun b hb hlt => ⟨(hbase1 b hb hlt).1, by rw [ho b (by omega)]; exact (hbase1 b hb hlt).2⟩⟩
    have hR2 : Rel ⟨C.P, w1.putObj (w.heap.size + 1) o2, F2, footX loc1, loopE (w.heap.size + 1) { rec .ready with state := .busy } (fun k => F k ∧ k < w.heap.size) w :: out1, C.N, []⟩ F2 (envA x (putE env ps.toList (encs x))) loc1 a1 (w1.putObj (w.heap.size + 1) o2) :=
      ⟨hmid hG2', fun t p hp => p.mono (hR1.env t p hp) hkeep1, hR1.size, hR1.defers, Ch.refl _ _, fun e he b hb => .inr ⟨e, he, hb⟩, fun b hb _ => hb⟩
    have hx2 := (hbody ⟨C.P, w1.putObj (w.heap.size + 1) o2, F2, footX loc1, loopE (w.heap.size + 1) { rec .ready with state := .busy } (fun k => F k ∧ k < w.heap.size) w :: out1, C.N, []⟩ (w.heap.size + 1) m pre x loc1 rfl rfl hpre hS).out F2 a1 _ hR2
    refine wpIn_mono hx2 ?_
    rintro e a3 w3 ⟨F3, env3, loc3, hR3, rfl, hS3⟩
    have hG3' := hmid2 hR3.good
    have hl3 := (hG3'.rel _ List.mem_cons_self).1
    have hbase3 := (hG3'.rel _ List.mem_cons_self).2
    have hend := run_endRound (P := C.P) none hl3
    obtain ⟨o3, ho3⟩ : ∃ o, o = Obj.loop (rec .ready) := ⟨_, rfl⟩
    have ho3' : Obj.loop { { rec .ready with state := .busy } with state := if (none : Option Code).isNone then .ready else .done, pending := none } = o3 := by rw [ho3, hrec]; rfl
    rw [ho3'] at hend
    refine ⟨_, _, hend, rfl, F3, loopE (w.heap.size + 1) (rec .ready) (fun k => F k ∧ k < w.heap.size) w :: loc3, ⟨loc3, rfl, hS3⟩, ?_, ?_, ?_, ?_⟩
    · exact hG3'.put rfl rfl fun ho hn => ⟨by rw [hn, ho3], fun b hb hlt => ⟨(hbase3 b hb hlt).1, by rw [ho b (by omega)]; exact (hbase3 b hb hlt).2⟩⟩
    · have hmem : footX (loopE (w.heap.size + 1) (rec .ready) (fun k => F k ∧ k < w.heap.size) w :: loc1) (w.heap.size + 1) := ⟨_, List.mem_cons_self, by simp [loopE]⟩
      have hup : ∀ n, footX loc1 n → footX (loopE (w.heap.size + 1) (rec .ready) (fun k => F k ∧ k < w.heap.size) w :: loc1) n := fun n ⟨e, he, hb⟩ => ⟨e, List.mem_cons_of_mem _ he, hb⟩
      have c1 : Ch (footX loc1) W w1 := hR1.ch
      have c3 : Ch (footX loc1) (w1.putObj (w.heap.size + 1) o2) w3 := hR3.ch
      exact ((c1.trans (Ch.put (X := footX (loopE (w.heap.size + 1) (rec .ready) (fun k => F k ∧ k < w.heap.size) w :: loc1)) (o := o2) hmem) (fun n _ h => hup n h) fun n _ h => h).trans c3 (fun n _ h => h) fun n _ h => hup n h).trans (Ch.put (X := footX (loopE (w.heap.size + 1) (rec .ready) (fun k => F k ∧ k < w.heap.size) w :: loc1)) hmem) (fun n _ h => h) fun n _ h => h
    · intro b hb hlt
      have c1 : Ch (footX loc1) W w1 := hR1.ch
      exact hR3.grow b (hR1.grow b hb hlt) (by show b < (w1.putObj _ o2).heap.size; rw [World.putObj_size]; have := c1.size; omega)
    · intro e he b hb
      rcases List.mem_cons.1 he with rfl | he
      · exact .inr ⟨_, List.mem_cons_self, hb⟩
      · rcases hR3.own e he b hb with h | ⟨e', he', hb'⟩
        · have c1 : Ch (footX loc1) W w1 := hR1.ch
          have h' : (w1.putObj (w.heap.size + 1) o2).heap.size ≤ b := h
          rw [World.putObj_size] at h'
          exact .inl (Nat.le_trans c1.size h')
        · exact .inr ⟨e', List.mem_cons_of_mem _ he', hb'⟩
  · show (loopE (w.heap.size + 1) (rec .ready) (fun k => F k ∧ k < w.heap.size) w :: markE w.heap.size :: ((bl ++ l2) ++ C.out)).Perm ((loopE (w.heap.size + 1) (rec .ready) (fun k => F k ∧ k < w.heap.size) w :: bl) ++ (markE w.heap.size :: (l2 ++ C.out)))
    rw [List.append_assoc]
    exact List.Perm.cons _ List.perm_middle.symm

theorem at_region (id : Nat) {C : Cx} {ops : Array Oper} {dr : Bool} {Q : Post} {env : Env} {loc : List Ent} (h : WP C (.region id ops dr) Q env loc) : WP C (.region id ops dr) Q env loc := h

end Go.Fr

/- A growing row that a cell of a struct holds is owned no more. No program in sight. -/
namespace Go.Fr
open Go.RowKit Go.Kx

theorem Rel.turn {C : Cx} {F : Nat → Prop} {env : Env} {loc : List Ent} {a : Act} {w : World} {k : Nat} {e e' : Ent} (hR : Rel C F env loc a w) (he : loc[k]? = some e) (hf : ∀ b, b ∈ e'.foot → b ∈ e.foot) (hr : e'.rel F w) : Rel C F env (loc.set k e') a w := by
  have hk : k < loc.length := (List.getElem?_eq_some_iff.1 he).1
  have hset : loc.set k e' ++ C.out = (loc ++ C.out).set k e' := by rw [List.set_append_left _ _ hk]
  have hmem : e ∈ loc ++ C.out := List.mem_append_left _ (List.mem_of_getElem? he)
  refine ⟨⟨?_, ?_, ?_⟩, hR.env, hR.size, hR.defers, hR.ch, ?_, hR.grow⟩
  · rw [hset]; intro x hx
    rcases List.mem_or_eq_of_mem_set hx with h | rfl
    · exact hR.good.rel x h
    · exact hr
  · rw [hset]; intro x hx b hb
    rcases List.mem_or_eq_of_mem_set hx with h | rfl
    · exact hR.good.lt x h b hb
    · exact hR.good.lt e hmem b (hf b hb)
  · rw [hset, List.pairwise_iff_getElem]
    intro i j hi hj hij b hb hb'
    rw [List.getElem_set] at hb hb'
    have hi2 : i < (loc ++ C.out).length := by simpa using hi
    have hj2 : j < (loc ++ C.out).length := by simpa using hj
    have hd := List.pairwise_iff_getElem.1 hR.good.disj i j hi2 hj2 hij
    have hek : (loc ++ C.out)[k]'(by rw [List.length_append]; omega) = e := by rw [List.getElem_append_left hk]; exact (List.getElem?_eq_some_iff.1 he).2
    split at hb <;> split at hb'
    · omega
    · rename_i h1 _; subst h1; rw [hek] at hd; exact hd b (hf b hb) hb'
    · rename_i _ h2; subst h2; rw [hek] at hd; exact hd b hb (hf b hb')
    · exact hd b hb hb'
  · intro x hx b hb
    rcases List.mem_or_eq_of_mem_set hx with h | rfl
    · exact hR.own x h b hb
    · exact hR.own e (List.mem_of_getElem? he) b (hf b hb)

theorem Leads_fcell {C : Cx} {env : Env} {loc : List Ent} {j k i T T2 n b tot : Nat} {v : Value} {qs ps : List SP} {α : Type} {E : Enc α} {fs : α → List SP} (l : List α) (hfree : look C.N env = none) (hj : loc[j]? = some (vec v T E.size n qs)) [hE : Fits E fs] (hqs : qs = l.flatMap fs) (hn : l.length = n) (hk : (loc.eraseIdx j)[k]? = some (row b T2 tot ps)) (hi : ps[i]? = some (ex v)) (hf0 : ∀ a, (fs a).length = E.size := by exact fun _ => rfl) (hpos : 0 < E.size := by first | decide | exact Nat.zero_lt_succ _) (hby : n * E.bytes ≤ 140737488355328 := by first | omega | (simp only [eSl, eByte]; omega)) : Leads C env loc env ((loc.eraseIdx j).set k (row b T2 tot (ps.set i (isl E l)))) := by
  intro F a w hR
  have hR1 : Rel { C with N := C.N + 1 } F ((C.N, ex v) :: env) loc { a with tmps := a.tmps.push v } w := by
    refine ⟨hR.good, fun t p hp => ?_, by simp [hR.size], hR.defers, hR.ch, hR.own, hR.grow⟩
    rw [look_cons] at hp
    split at hp
    · rename_i e; cases hp; subst e
      show (a.tmps.push v).getD C.N undef = v
      rw [Array.getD_eq_getD_getElem?, ← hR.size]; simp
    · rename_i hne
      have h := hR.env t p hp
      have e : (a.tmps.push v).getD t undef = a.tmps.getD t undef := by
        rw [Array.getD_eq_getD_getElem?, Array.getD_eq_getD_getElem?, Array.getElem?_push, if_neg (by rw [hR.size]; exact fun e => hne e)]
      show p.rel F w ((a.tmps.push v).getD t undef)
      rw [e]; exact h
  obtain ⟨F', h2⟩ := Leads_fvec (C := { C with N := C.N + 1 }) (t := C.N) l (by rw [look_cons, if_pos rfl]) hj hqs hn hf0 hpos hby F _ w hR1
  have hisl : (isl E l).rel F' w v := by
    have h := h2.env C.N (isl E l) (by rw [look_cons, if_pos rfl])
    have e : (a.tmps.push v).getD C.N undef = v := by rw [Array.getD_eq_getD_getElem?, ← hR.size]; simp
    have h' : (isl E l).rel F' w ((a.tmps.push v).getD C.N undef) := h
    rwa [e] at h'
  have hR3 : Rel C F' env (loc.eraseIdx j) a w := by
    refine ⟨h2.good, fun t p hp => ?_, hR.size, hR.defers, hR.ch, fun e he => hR.own e ((List.eraseIdx_sublist ..).subset he), h2.grow⟩
    have hne : t ≠ C.N := fun e => by subst e; rw [hfree] at hp; cases hp
    have h := h2.env t p (by rw [look_cons, if_neg hne, look_cons, if_neg hne]; exact hp)
    have e : (a.tmps.push v).getD t undef = a.tmps.getD t undef := by
      rw [Array.getD_eq_getD_getElem?, Array.getD_eq_getD_getElem?, Array.getElem?_push, if_neg (by rw [hR.size]; exact hne)]
    have h' : p.rel F' w ((a.tmps.push v).getD t undef) := h
    rwa [e] at h'
  refine ⟨F', hR3.turn hk (fun b' hb => hb) ?_⟩
  obtain ⟨cur, c1, c2, c3⟩ := hR3.good.rel _ (List.mem_append_left _ (List.mem_of_getElem? hk))
  refine ⟨cur, c1, c2, fun m q hq => ?_⟩
  rw [List.getElem?_set] at hq
  split at hq
  · rename_i e
    subst e
    split at hq
    · cases hq
      obtain ⟨u, h4, h5⟩ := c3 i (ex v) hi
      have h5' : u = v := h5
      subst h5'
      exact ⟨u, h4, hisl⟩
    · cases hq
  · exact c3 m q hq

theorem WPI_vv {C : Cx} {Fe : Fence} {m : Nat} {ops : Array Oper} {Q : Post} {l : List Oper} {env : Env} {loc : List Ent} {k T sz n : Nat} {v : Value} {ps : List SP} (he : loc[k]? = some (vec v T sz n ps)) (hn : 0 < n) (h : ∀ b c, v = .slice (some ⟨b, 0, none⟩) n c → WPI C Fe m ops Q l env loc) : WPI C Fe m ops Q l env loc := ⟨fun F a w hR => by obtain ⟨b, c, hv, _, _⟩ := vec_open hR he hn; exact (h b c hv).out F a w hR⟩

/-- A place where a walk is to stop. -/
structure Stop (p : Prop) : Prop where
  out : p
theorem WPR_leads {C : Cx} {c : Code} {T : Exit → Act → World → Prop} {env env' : Env} {loc loc' : List Ent} (hl : Leads C env loc env' loc') (h : WPR C c T env' loc') : WPR C c T env loc := ⟨fun F a w hR => let ⟨F', hR'⟩ := hl F a w hR; h.out F' a w hR'⟩

end Go.Fr

/- More builtins. No program in sight. -/
namespace Go.Fr
open Go.RowKit Go.Kx
section
variable {C : Cx} {S : (Nat → Prop) → World → World → Prop} {env : Env} {loc : List Ent} {dst : Option Tmp} {ty : TypeId} {pos : String} {af : Array Edge} {g : Option (Nat × Bool)}
theorem WT_max3 {x y z : Operand} {ts : Array TypeId} {k k' k'' : IntKind} {m n l : Int} (hx : ev env x = some (exI k m)) (hy : ev env y = some (exI k' n)) (hz : ev env z = some (exI k'' l)) : WT C S ⟨dst, .call ⟨.builtin .max, #[x, y, z], ts⟩, ty, pos, af, g⟩ (exI k (max (max m n) l)) env loc := by
  constructor
  intro F a w hR
  have hvx : a.eval x = .int k m := ev_eval hR hx
  have hvy : a.eval y = .int k' n := ev_eval hR hy
  have hvz : a.eval z = .int k'' l := ev_eval hR hz
  refine ⟨_, rfl, fun w' _ => ?_⟩
  have e1 : max m n = if n > m then n else m := by split <;> omega
  have e2 : ∀ q : Int, max q l = if l > q then l else q := fun q => by split <;> omega
  rw [e1, e2]
  generalize a.eval = ρ at hvx hvy hvz ⊢
  simp [hvx, hvy, hvz, go_sem]
theorem WT_min {x y : Operand} {ts : Array TypeId} {k k' : IntKind} {m n : Int} (hx : ev env x = some (exI k m)) (hy : ev env y = some (exI k' n)) : WT C S ⟨dst, .call ⟨.builtin .min, #[x, y], ts⟩, ty, pos, af, g⟩ (exI k (min m n)) env loc := by
  constructor
  intro F a w hR
  have hvx : a.eval x = .int k m := ev_eval hR hx
  have hvy : a.eval y = .int k' n := ev_eval hR hy
  refine ⟨_, rfl, fun w' _ => ?_⟩
  have e1 : min m n = if n < m then n else m := by split <;> omega
  rw [e1]
  generalize a.eval = ρ at hvx hvy ⊢
  simp [hvx, hvy, go_sem]
/-- []byte("..") of a constant text: its row is marked, and nobody writes it any more. -/
theorem WO_ctext {H : Nat → Prop} {K : Env → List Ent → Prop} {d b n c T tot : Nat} {t e : TypeId} {x : Operand} {ps : List SP} (bs : List UInt8) (hx : ev env x = some (ex (.slice (some ⟨b, 0, none⟩) n c))) (he : loc[0]? = some (row b T tot ps)) (hps : ps = bs.map ub) (hn : bs.length = n) (ht : C.P.underlying t = some (.slice e)) (hu : C.P.underlying e = some (.int .u8)) (hc : n ≤ c) (hm : c ≤ maxLen) (hH : ¬ H b) (hk : K ((d, isl eByte bs) :: env) (loc.drop 1)) (hd : Nat.blt d C.N = true := by rfl) (hby : n ≤ 140737488355328 := by omega) : WO C H ⟨some d, .convert t t x, ty, pos, af, g⟩ K env loc := by
  constructor
  intro F a w hR
  match loc, he with
  | e0 :: l2, he =>
  have he0 : e0 = row b T tot ps := by simpa using he
  subst he0
  have hmem : row b T tot ps ∈ (row b T tot ps :: l2) ++ C.out := by simp
  obtain ⟨cur, h1, h2, h3⟩ := hR.good.rel _ hmem
  have hb := hR.good.lt _ hmem b (by simp [row])
  have hv : a.eval x = .slice (some ⟨b, 0, none⟩) n c := ev_eval hR hx
  obtain ⟨w', hw'⟩ : ∃ w', w' = w.freeze ⟨b, cur.size, none⟩ 1 := ⟨_, rfl⟩
  have hsh : w.shape? b = some (T, cur.size) := by unfold World.shape?; rw [h1]
  have hheap : w'.heap = w.heap.modify b fun | .cells c elem (lo, hi) => .cells c elem (if lo == hi then (cur.size, cur.size + 1) else (min lo cur.size, max hi (cur.size + 1))) | o => o := by rw [hw']; unfold World.freeze; rw [if_neg (by decide)]; rfl
  have hother : ∀ k, k ≠ b → w'.heap[k]? = w.heap[k]? := fun k hk => by rw [hheap, Array.getElem?_modify, if_neg (fun e => hk e.symm)]
  have hsame : ∃ fr, w'.heap[b]? = some (.cells cur T fr) := by rw [hheap, Array.getElem?_modify, if_pos rfl, h1]; exact ⟨_, rfl⟩
  obtain ⟨fr, hfr⟩ := hsame
  have hsize : w'.heap.size = w.heap.size := by rw [hheap]; simp
  have hrun : (execOp a.eval ⟨some d, .convert t t x, ty, pos, af, g⟩).run C.P w = .ok (.value (.slice (some ⟨b, 0, none⟩) n c)) w' := by
    generalize a.eval = ρ at hv ⊢
    simp [execOp, hv, go_sem, convert, run_und ht, run_und hu, markStringish, hsh, hw']
  unfold Oper.wp
  rw [hrun]
  have hm' : ∀ k, F k → k < w.heap.size → (F k ∨ k = b) ∧ w'.heap[k]? = w.heap[k]? := fun k hk _ => ⟨.inl hk, hother k fun e => hb.2 (e ▸ hk)⟩
  have hpw := List.pairwise_cons.1 hR.good.disj
  have hdis : ∀ y ∈ l2 ++ C.out, b ∉ y.foot := fun y hy hby => hpw.1 y hy b (by simp [row]) hby
  have hG : Good (fun k => F k ∨ k = b) (l2 ++ C.out) w' := by
    refine ⟨fun y hy => y.mono (hR.good.rel y (List.mem_cons_of_mem _ hy)) hm' fun k hk => hother k fun e => hdis y hy (e ▸ hk), fun y hy k hkk => ⟨by rw [hsize]; exact (hR.good.lt y (List.mem_cons_of_mem _ hy) k hkk).1, ?_⟩, hpw.2⟩
    rintro (h | rfl)
    · exact (hR.good.lt y (List.mem_cons_of_mem _ hy) k hkk).2 h
    · exact hdis y hy hkk
  have hisl : (isl eByte bs).rel (fun k => F k ∨ k = b) w' (.slice (some ⟨b, 0, none⟩) n c) := by
    refine ⟨_, _, _, rfl, hn, hc, hm, by simpa [eByte] using hby, (fun h => by cases h), fun i hi => ⟨b, 0, [.int .u8 (bs[i].toNat : Int)], rfl, .inr rfl, by rw [hsize]; exact hb.1, rfl, fun j hj => ?_, rfl⟩⟩
    have hj0 : j = 0 := by simp [eByte] at hj; omega
    subst hj0
    obtain ⟨v, h4, h5⟩ := h3 i (ub bs[i]) (by rw [hps, List.getElem?_map, List.getElem?_eq_getElem hi]; rfl)
    have h5' : v = .int .u8 (bs[i].toNat : Int) := h5
    simp [World.cell?, hfr, eByte, h4, h5']
  refine ⟨fun k => F k ∨ k = b, _, _, hR.next hG hm' ?_ (fun y hy => hR.own y (List.mem_cons_of_mem _ hy)) hd hisl, by omega, fun k hk _ => .inl hk, fun k hk hFH => hother k ?_, hk⟩
  · refine hR.ch.trans (Y := fun k => k = b) ⟨by rw [hw']; unfold World.freeze; rw [if_neg (by decide)], by rw [hw']; unfold World.freeze; rw [if_neg (by decide)], by rw [hw']; unfold World.freeze; rw [if_neg (by decide)], by omega, fun k _ hk => hother k hk⟩ (fun _ _ h => h) fun k hk e => ?_
    subst e
    exact (hR.own _ List.mem_cons_self k (by simp [row])).elim (fun h => absurd hk (by omega)) id
  · rintro rfl
    exact hFH.elim hb.2 hH
end
instance Nt.min {a b : Int} {i j : Nat} [ha : Nt a i] [hb : Nt b j] : Nt (min a b) (min i j) := ⟨by rw [ha.h, hb.h]; omega⟩
instance Nt.max {a b : Int} {i j : Nat} [ha : Nt a i] [hb : Nt b j] : Nt (max a b) (max i j) := ⟨by rw [ha.h, hb.h]; omega⟩
theorem WPY_leads {C : Cx} {H : Nat → Prop} {n : Nat} {ops : Array Oper} {Q : Post} {fuel : Nat} {listed : Array Bool} {env env' : Env} {loc loc' : List Ent} (hnt : noTail n listed = false) (hl : Leads C env loc env' loc') (h : WPY C H n ops Q fuel listed env' loc') : WPY C H n ops Q fuel listed env loc :=
  ⟨fun F a w hR => let ⟨F', hR'⟩ := hl F a w hR; wpAnyT_free _ _ _ _ hnt (h.out F' a w hR')⟩
theorem WPY_three {C : Cx} {H H1 H2 H3 : Nat → Prop} {n : Nat} {ops : Array Oper} {Q : Post} {fuel : Nat} {listed : Array Bool} {env : Env} {loc : List Ent} {o1 o2 o3 : Oper} (i j k : Nat) (hr : Region.ready .any ops listed = [i, j, k]) (ho1 : ops[i]? = some o1) (hg1 : GuardOn C ops env o1.guard) (hH1 : noTail n (listed.setIfInBounds i true) = true → ∀ b, H b → H1 b) (ho2 : ops[j]? = some o2) (hg2 : GuardOn C ops env o2.guard) (hH2 : noTail n (listed.setIfInBounds j true) = true → ∀ b, H b → H2 b) (ho3 : ops[k]? = some o3) (hg3 : GuardOn C ops env o3.guard) (hH3 : noTail n (listed.setIfInBounds k true) = true → ∀ b, H b → H3 b)
    (h1 : WO C H1 o1 (fun env loc => WPY C H n ops Q fuel (listed.setIfInBounds i true) env loc) env loc) (h2 : WO C H2 o2 (fun env loc => WPY C H n ops Q fuel (listed.setIfInBounds j true) env loc) env loc) (h3 : WO C H3 o3 (fun env loc => WPY C H n ops Q fuel (listed.setIfInBounds k true) env loc) env loc) : WPY C H n ops Q (fuel + 1) listed env loc :=
  WPY_all [i, j, k] hr rfl fun q hq => by
    rcases List.mem_cons.1 hq with rfl | hq
    · exact ⟨o1, ho1, hg1, H1, hH1, h1⟩
    · rcases List.mem_cons.1 hq with rfl | hq
      · exact ⟨o2, ho2, hg2, H2, hH2, h2⟩
      · rw [List.mem_singleton] at hq; subst hq
        exact ⟨o3, ho3, hg3, H3, hH3, h3⟩
theorem blt_h {a b : Nat} (h : Nat.blt a b = true) : Nat.blt a b = true := h
theorem FnC_args {P : Program} {f : FuncId} {args args' : List SP} {inn : List Ent} {R : SP → List Ent → Prop} (h : FnC P f args' inn R) (hi : Ims args args') : FnC P f args inn R := fun F w vals out hG hA => h F w vals out hG (hi.cells hA)
theorem WO_lead' {C : Cx} {ops : Array Oper} {Q : Post} {l : List Oper} {env env' : Env} {loc loc' : List Ent} (hl : Leads C env loc env' loc') (h : WPL C ops Q l env' loc') : WPL C ops Q l env loc := WPL_leads hl h
end Go.Fr

/- Writes in slices, structs out of what is frozen, and growing rows in a drawn region. No program in sight. -/
namespace Go.Fr
open Go.RowKit Go.Kx
section
variable {C : Cx} {S : (Nat → Prop) → World → World → Prop} {H : Nat → Prop} {env : Env} {loc : List Ent} {dst : Option Tmp} {ty : TypeId} {pos : String} {af : Array Edge} {g : Option (Nat × Bool)}
/-- A write's cells. -/
def wrV (x : Wr) : List SP := [exI .i64 x.at_, isl eByte x.data]
theorem WT_indexW {l : List Wr} {t e : TypeId} {x y : Operand} {k : IntKind} {m : Int} {i bt : Nat} {z : Value} (hx : ev env x = some (isl eWr l)) (hy : ev env y = some (exI k m)) [hm : Nt m i] (ht : C.P.underlying t = some (.slice e)) [hT : TI C.P e 2 bt z] (hl : i < l.length := by first | omega | (simp; done) | (simp; omega)) :
    WT C S ⟨dst, .indexAddr t x y, ty, pos, af, g⟩ (fp [exI .i64 l[i].at_, isl eByte l[i].data]) env loc := by
  constructor
  intro F a w hR
  obtain ⟨ti, hi, hsz, _, _⟩ := hT.out
  obtain ⟨rfl⟩ := hm
  obtain ⟨b0, n, c, hv, hs⟩ := ev_eval hR hx
  have hvy : a.eval y = .int k i := ev_eval hR hy
  obtain ⟨b, off, cs, rfl, h1, h2, h3, h4, h5⟩ := hs.elem i hl
  obtain ⟨oa, n', c', rfl, _, h7⟩ := h5
  have h6 : CellsR F w [exI .i64 l[i].at_, isl eByte l[i].data] [.int .i64 l[i].at_, .slice oa n' c'] := .cons rfl (.cons ⟨oa, n', c', rfl, h7⟩ .nil)
  have hn : i < n := by rw [← hs.length]; exact hl
  refine ⟨.pointer (some ⟨b, off + i * 2, none⟩), ⟨b, _, rfl, h1, h2, fun j p hp => ?_⟩, fun _ _ => ?_⟩
  · obtain ⟨u, h7, h8⟩ := h6.at_ j p hp
    have hj : j < 2 := by have := (List.getElem?_eq_some_iff.1 h7).1; simpa using this
    exact ⟨u, (h4 j hj).trans h7, h8⟩
  · generalize a.eval = ρ at hv hvy ⊢
    simp [execOp, hv, hvy, Instr.indexAt, asIntOf, run_und ht, hn, add_plain, run_siz hi, hsz, go_sem]
/-- A struct that is loaded out of what is frozen, its cells one by one. -/
theorem WT_loadfa2 {qs : List SP} {t : TypeId} {x : Operand} {ps : List SP} {d : TypeDesc} {sz bt : Nat} {z : Value} (hx : ev env x = some (fp ps)) (hu : C.P.underlying t = some d) [hT : TI C.P t sz bt z] (hd : Desc.aggB d = true := by rfl) (hl : Nat.ble sz ps.length = true := by rfl) (hq : Nf (ps.take sz) qs := by simp only [fillC, putC, Value.cells, List.foldl_cons, List.foldl_nil, List.map_cons, List.map_nil, List.length_cons, List.length_nil, Nat.zero_add, Nat.reduceAdd, List.take_succ_cons, List.take_zero, List.drop_succ_cons, List.drop_zero, List.nil_append, List.cons_append, List.drop_nil, List.take_nil, List.set_cons_zero, List.set_cons_succ]; exact ⟨rfl⟩) :
    WT C (Hold H) ⟨dst, .load t x, ty, pos, af, g⟩ (agg qs) env loc := hq.h ▸ WT_loadfa hx hu hd hl
end
/-- A growing row that is not empty is no nil. -/
theorem WPY_vv {C : Cx} {H : Nat → Prop} {n0 : Nat} {ops : Array Oper} {Q : Post} {fuel : Nat} {listed : Array Bool} {env : Env} {loc : List Ent} {k T sz n : Nat} {v : Value} {ps : List SP} (he : loc[k]? = some (vec v T sz n ps)) (hn : 0 < n) (h : ∀ b c, v = .slice (some ⟨b, 0, none⟩) n c → n ≤ c → c ≤ maxLen → WPY C H n0 ops Q fuel listed env loc) : WPY C H n0 ops Q fuel listed env loc := ⟨fun F a w hR => by obtain ⟨b, c, hv, h1, h2⟩ := vec_open hR he hn; exact (h b c hv h1 h2).out F a w hR⟩
theorem Leads_perm {C : Cx} {env : Env} {loc loc' : List Ent} (hp : loc.Perm loc') : Leads C env loc env loc' := fun F _ _ hR => ⟨F, hR.good.perm (hp.append_right _), hR.env, hR.size, hR.defers, hR.ch, fun e he => hR.own e (hp.mem_iff.2 he), hR.grow⟩
theorem putC_set {α : Type} (f : α → SP) (l : List α) (i : Nat) (x : α) (h : i < l.length) : putC (l.map f) i [f x] = (l.set i x).map f := by
  unfold putC
  rw [List.map_set, List.set_eq_take_append_cons_drop, if_pos (by simpa using h)]
  simp
theorem putC_then {α : Type} (f : α → SP) (l : List α) (i : Nat) (p : SP) (y : α) (h : i < l.length) : (putC (l.map f) i [p]).set i (f y) = (l.set i y).map f := by
  have hl : i + [p].length ≤ (l.map f).length := by simp; omega
  have hln : (putC (l.map f) i [p]).length = l.length := by rw [putC_length hl]; simp
  rw [List.map_set]
  apply List.ext_getElem?
  intro j
  rw [List.getElem?_set, putC_get hl, List.getElem?_set, hln, List.length_map]
  by_cases hj : i = j
  · subst hj; simp [h]
  · rw [if_neg hj, if_neg hj, if_neg (by simp; omega)]
end Go.Fr

/- append of so many zero bytes, to a row of one's own. No program in sight. -/
namespace Go.Fr
open Go.RowKit Go.Kx Go.Lib
section
variable {P : Program}

instance Scs_ubs {l : List UInt8} : Scs (l.map ub) := ⟨fun q hq => by obtain ⟨c, _, rfl⟩ := List.mem_map.1 hq; exact Sc_ex rfl⟩

theorem zeroCells_one (x : Value) (m : Nat) : (Builtin.zeroCells #[x] m).toList = List.replicate m x := by
  apply List.ext_getElem
  · simp [Builtin.zeroCells]
  · intro i h1 h2
    simp [Builtin.zeroCells, Nat.mod_one]

theorem run_append_room_zeros (w : World) (t tn ty e : TypeId) (i : TypeInfo) (kq kn : IntKind) (ht : P.underlying t = some (.slice e)) (htn : P.underlying tn = some (.int kn)) (hi : P.info? e = some i) (hz : i.zero = some (.int .u8 0)) (hsz : i.size = 1) (hby : i.bytes = 1)
    (g sLen sCap : Nat) (cur : Array Value) (hg : w.heap[g]? = some (.cells cur e (0, 0))) (m : Nat) (h63 : m ≤ 140737488355328)
    (hroom : sLen + m ≤ sCap) (hfit : sLen + m ≤ cur.size) :
    (Builtin.append_ #[t, tn] ty #[.slice (some ⟨g, 0, none⟩) sLen sCap, .int kq m]).run P w =
      .ok (.slice (some ⟨g, 0, none⟩) (sLen + m) sCap) (w.setRow g (cur.toList.take sLen ++ List.replicate m (Value.int .u8 0) ++ cur.toList.drop (sLen + m)).toArray) := by
  have hst := run_storeCells_at P g sLen e (List.replicate m (.int .u8 0)) 0 cur w hg (by simpa using hfit) (fun u hu => by obtain ⟨_, rfl⟩ := List.mem_replicate.1 hu; rfl)
  simp only [Nat.add_zero, List.length_replicate] at hst
  have hw : IntKind.i64.wrap (m : Int) = m := by rw [IntKind.wrap_i64]; omega
  have hneg : ¬ ((m : Int) < 0) := by omega
  have h48i : ¬ (281474976710656 < (m : Int)) := by omega
  have hzc : (Builtin.zeroCells #[Value.int .u8 0] m).toList = List.replicate m (.int .u8 0) := zeroCells_one _ m
  by_cases h0 : m = 0
  · subst h0
    have hw0 : IntKind.i64.wrap 0 = 0 := by rw [IntKind.wrap_i64]; omega
    have hroom' : sLen ≤ sCap := by omega
    simp at hst
    simp [Builtin.append_, hw0, run_underlying ht, run_underlying htn, sizeOf, typeInfo, zeroValue, hi, hz, asInt, asIntOf, hsz, hby, hroom', Addr.add_lit, hst]
  · simp [Builtin.append_, run_underlying ht, run_underlying htn, sizeOf, typeInfo, zeroValue, hi, hz, asInt, asIntOf, hw, hneg, h48i, hsz, hby, h0, hroom, Addr.add_lit, hzc, Value.cells, hst]

theorem run_append_own_zeros (w : World) (t tn ty e : TypeId) (i : TypeInfo) (kq kn : IntKind) (ht : P.underlying t = some (.slice e)) (htn : P.underlying tn = some (.int kn)) (hi : P.info? e = some i) (hz : i.zero = some (.int .u8 0)) (hsz : i.size = 1) (hby : i.bytes = 1)
    (v : Value) (n : Nat) (xs : List Value) (hown : w.ownsRow 0 e 1 v n xs) (hn : 0 < n) (m : Nat) (hm : n + m ≤ 140737488355328) :
    ∃ v' w', (Builtin.append_ #[t, tn] ty #[v, .int kq m]).run P w = .ok v' w' ∧ w'.ownsRow 0 e 1 v' (n + m) (xs ++ List.replicate m (.int .u8 0)) ∧ w.grownBy w' v.ownBlock ∧ (v'.ownBlock = v.ownBlock ∨ v'.ownBlock = some w.heap.size) := by
  have hl : xs.length = n := by have := hown.1; omega
  have hlen : (xs ++ List.replicate m (Value.int .u8 0)).length = (n + m) * 1 := by simp [hl]
  rcases hown.2 with ⟨rfl, rfl⟩ | ⟨g, cap, cur, rfl, hbg, hg, hnc, hcm, hcs, htake⟩
  · omega
  · have htake' : cur.toList.take n = xs := by rw [Nat.mul_one] at htake; exact htake
    by_cases hroom : n + m ≤ cap
    · have hr := run_append_room_zeros (P := P) w t tn ty e i kq kn ht htn hi hz hsz hby g n cap cur hg m (by omega) hroom (by omega)
      refine ⟨_, _, hr, ⟨hlen, .inr ⟨g, cap, _, rfl, hbg, setRow_heap w g cur _ e _ hg, hroom, hcm, ?_, ?_⟩⟩, ⟨rfl, rfl, rfl, by simp, fun k _ hk => setRow_other w g k _ (fun e => hk (by simp [Value.ownBlock, e]))⟩, Or.inl rfl⟩
      · simp only [List.size_toArray, List.length_append, List.length_take, List.length_drop, Array.length_toList, List.length_replicate]
        omega
      · show List.take ((n + m) * 1) (cur.toList.take n ++ _ ++ _) = _
        rw [htake', ← hlen]
        exact List.take_left
    · have hm0 : 0 < m := by omega
      have hf : (Builtin.firstCells i.size n (.slice (some ⟨g, 0, none⟩) n cap)).run P w.drew = .ok xs.toArray w.drew := by
        have holds : ∀ j u, xs[j]? = some u → w.drew.cell? ((⟨g, 0, none⟩ : Addr).add j) = some u := hown.cells (g := g) rfl
        exact run_firstCells_some (P := P) w.drew i.size n ⟨g, 0, none⟩ n cap xs (by rw [hsz]; omega) holds
      have hfit := growslice_fits (need := n + m) (old := cap) (bytes := i.bytes) (by omega) (by rw [hby]; omega)
      have hr := run_append_grow_zeros (P := P) w t tn ty e i (.int .u8 0) kq kn ht htn hi hz (some ⟨g, 0, none⟩) n cap xs hf m hm0 (by omega) (by omega) (by omega) (by rw [hby]; omega) hfit
      have hge := grownCap_ge w (n + m) cap e
      have hcm : grownCap w (n + m) cap e ≤ maxLen := grownCap_le_maxLen w (n + m) cap e (by simp only [maxLen]; omega)
      refine ⟨_, _, hr, ⟨hlen, .inr ⟨w.heap.size, _, _, rfl, Nat.zero_le _, heap_alloc_new w.drew _, hge, hcm, ?_, ?_⟩⟩, ⟨rfl, rfl, rfl, by simp, fun k hk _ => heap_alloc_old w.drew _ hk⟩, Or.inr rfl⟩
      · simp only [Array.size_append, List.size_toArray, size_zeroCells, hl]
        simp [Value.cells]; omega
      · show List.take ((n + m) * 1) (xs.toArray ++ Builtin.zeroCells #[Value.int .u8 0] m ++ _).toList = _
        simp only [Array.toList_append, zeroCells_one]
        rw [← hlen]
        exact List.take_left
end

/-- Two cells of a row as a source. -/
theorem Src_row2 {C : Cx} {env : Env} {loc : List Ent} {x : Operand} {k b T tot c : Nat} {ps : List SP} {p q : SP} (hx : ev env x = some (ex (.slice (some ⟨b, 0, none⟩) 2 c))) (he : loc[k]? = some (row b T tot ps)) (hq : ps = [p, q]) [Sc p] [Sc q] : Src C env loc x 1 2 [p, q] := by
  subst hq
  exact Src_rowW (k := k) hx he (hs := Scs_cons (k := Scs_cons (k := Scs_nil))) rfl
theorem replicate_zero_rel {F : Nat → Prop} {w : World} (m : Nat) : CellsR F w ((List.replicate m (0 : UInt8)).map ub) (List.replicate m (.int .u8 0)) := by
  induction m with
  | zero => exact .nil
  | succ m ih => exact .cons rfl ih

section
variable {C : Cx} {H : Nat → Prop} {K : Env → List Ent → Prop} {env : Env} {loc : List Ent} {d : Tmp} {ty : TypeId} {pos : String} {af : Array Edge} {g : Option (Nat × Bool)} {l0 : List Ent}
/-- append of m zero bytes. -/
theorem WO_append_zeros {s x : Operand} {t tn e k n m : Nat} {kq kn : IntKind} {mi : Int} {v : Value} {ps : List SP} (hs : ev env s = some (ex v)) (he : loc[k]? = some (vec v e 1 n ps)) (hx : ev env x = some (exI kq mi)) (ht : C.P.underlying t = some (.slice e)) (htn : C.P.underlying tn = some (.int kn)) [hT : TI C.P e 1 1 (.int .u8 0)] [hmi : Nt mi m] (hk : ∀ v', K ((d, ex v') :: env) (loc.set k (vec v' e 1 (n + m) (ps ++ (List.replicate m 0).map ub)))) (h0 : 0 < n := by first | omega | (simp; omega)) (hl : n + m ≤ 140737488355328 := by first | omega | (simp; omega)) (hd : Nat.blt d C.N = true := by rfl) (hH : l0.Sublist (loc.eraseIdx k) := by exact List.nil_sublist _) : WO C (feet l0) ⟨some d, .call ⟨.builtin .append, #[s, x], #[t, tn]⟩, ty, pos, af, g⟩ K env loc := by
  constructor
  intro F a w hR
  obtain ⟨ti, hi, hsz, hby, hz⟩ := hT.out
  obtain ⟨rfl⟩ := hmi
  obtain ⟨xs, hown, hrel⟩ := hR.good.rel _ (List.mem_append_left _ (List.mem_of_getElem? he))
  have hsv : a.eval s = v := ev_eval hR hs
  have hxv : a.eval x = .int kq m := ev_eval hR hx
  obtain ⟨v', w', h1, h2, h3, h4⟩ := run_append_own_zeros (P := C.P) w t tn ty e ti kq kn ht htn hi hz hsz hby v n xs hown h0 m hl
  have hex : (execOp a.eval ⟨some d, .call ⟨.builtin .append, #[s, x], #[t, tn]⟩, ty, pos, af, g⟩).run C.P w = .ok (.value v') w' := by
    generalize a.eval = ρ at hsv hxv ⊢
    simp only [execOp, resolve, invoke, builtin, Sem.run_bind, Sem.run_pure, Result.andThen_ok, List.map_toArray, List.map_cons, List.map_nil, hsv, hxv, h1]
  unfold Oper.wp
  rw [hex]
  have hmem := List.mem_append_left C.out (List.mem_of_getElem? he)
  refine ⟨_, _, _, hR.vec_write he h2 (hrel.app (replicate_zero_rel m)) h3 (fun b hb => ?_) hd, h3.size, fun b hb hlt => ⟨hb, hlt⟩, fun b hb hF => h3.block b hb fun e => ?_, hk _⟩
  case refine_2 =>
    rcases hF with h | h
    · exact (hR.good.lt _ hmem b (vec_foot.2 e.symm)).2 h
    · exact hR.good.apart he (vec_foot.2 e.symm) hH h
  have hlt : b < w'.heap.size := by
    rcases h2.2 with ⟨rfl, _⟩ | ⟨b', _, _, rfl, _, h5, _⟩
    · cases hb
    · cases hb; exact (Array.getElem?_eq_some_iff.1 h5).1
  rcases h4 with h | h
  · exact ⟨hlt, .inl (h ▸ hb)⟩
  · rw [h] at hb; cases hb; exact ⟨hlt, .inr (Nat.le_refl _)⟩
end
end Go.Fr

/- Rows of numbers; a crash's struct; a cut around a block. No program in sight. -/
namespace Go.Fr
open Go.RowKit Go.Kx

def eNat : Enc Nat where
  size := 1
  bytes := 8
  rel _ _ cs a := cs = [.int .i64 (a : Int)]
  len h := by subst h; rfl
  mono h _ := h
def nV (n : Nat) : SP := exI .i64 (n : Int)
def natV (n : Nat) : List SP := [nV n]
theorem fit_one {F : Nat → Prop} {w : World} {cs : List Value} {u : Value} : CellsR F w [ex u] cs ↔ cs = [u] := by
  constructor
  · intro h
    obtain ⟨v, h1, h2⟩ := h.at_ 0 _ rfl
    have hl : cs.length = 1 := h.len
    obtain ⟨x, rfl⟩ := List.length_eq_one_iff.1 hl
    cases h1
    have h3 : v = u := h2
    rw [h3]
  · rintro rfl
    exact .cons rfl .nil
instance fits_nat : Fits eNat natV where
  out h := fit_one.2 h
  inn h := fit_one.1 h
instance {n : Nat} : Sc (nV n) := Sc_ex rfl
instance {n : Nat} : Scs (natV n) := Scs_cons (h := Sc_ex rfl) (k := Scs_nil)
theorem flat_natV (l : List Nat) : l.map nV = l.flatMap natV := by
  induction l with
  | nil => rfl
  | cons b l ih => rw [List.flatMap_cons, ← ih]; rfl

theorem cutb_at (id : Nat) {C : Cx} {c y : Code} {Q : Post} {env : Env} {loc : List Ent} (h : WP C (.seq (.block id c) y) Q env loc) : WP C (.seq (.block id c) y) Q env loc := h
theorem cuts_at (id : Nat) {C : Cx} {ops : Array Oper} {dr : Bool} {x y : Code} {Q : Post} {env : Env} {loc : List Ent} (h : WP C (.seq (.seq (.region id ops dr) x) y) Q env loc) : WP C (.seq (.seq (.region id ops dr) x) y) Q env loc := h
theorem WP_vec3 {C : Cx} {c0 : Code} {Q : Post} {env : Env} {loc : List Ent} {k T sz n : Nat} {v : Value} {ps : List SP} (he : loc[k]? = some (vec v T sz n ps)) (hn : 0 < n) (h : ∀ b c, v = .slice (some ⟨b, 0, none⟩) n c → n ≤ c → c ≤ maxLen → WP C c0 Q env (loc.set k (row b T (c * sz) ps))) : WP C c0 Q env loc := by
  constructor
  intro F a w hR
  obtain ⟨b, c, rfl, h1, h2⟩ := vec_open hR he hn
  exact (h b c rfl h1 h2).out F a w (LeadsS_vec_row he F a w hR)
theorem WT_xorb {C : Cx} {S : (Nat → Prop) → World → World → Prop} {env : Env} {loc : List Ent} {dst : Option Tmp} {ty : TypeId} {pos : String} {af : Array Edge} {g : Option (Nat × Bool)} {x y : Operand} {t u : TypeId} {b c : UInt8} (hx : ev env x = some (exI .u8 (b.toNat : Int))) (hy : ev env y = some (exI .u8 (c.toNat : Int))) : WT C S ⟨dst, .binOp .xor t x y u, ty, pos, af, g⟩ (exI .u8 ((b ^^^ c).toNat : Int)) env loc := by
  rw [UInt8.toNat_xor]
  exact WT_xor hx hy
theorem u64_in {m : Int} (h0 : 0 ≤ m) (h1 : m < 18446744073709551616) : IntKind.u64.wrap m = m := by
  simp [IntKind.wrap, IntKind.bits, IntKind.signed]; omega
theorem u64_nt (m : Int) : Nt (IntKind.u64.wrap m) (m % 18446744073709551616).toNat := ⟨by simp [IntKind.wrap, IntKind.bits, IntKind.signed]; omega⟩
end Go.Fr

/- Arrays of bytes that are loaded whole. No program in sight. -/
namespace Go.Fr
open Go.RowKit Go.Kx
section
variable {C : Cx} {S : (Nat → Prop) → World → World → Prop} {H : Nat → Prop} {env : Env} {loc : List Ent} {dst : Option Tmp} {ty : TypeId} {pos : String} {af : Array Edge} {g : Option (Nat × Bool)}
theorem WT_loadarr {t : TypeId} {x : Operand} {k b T tot : Nat} {bs : List UInt8} {d : TypeDesc} {sz bt : Nat} {z : Value} (hx : ev env x = some (ex (.pointer (some ⟨b, 0, none⟩)))) (he : loc[k]? = some (row b T tot (bs.map ub))) (hlen : bs.length = 4) (hu : C.P.underlying t = some d) [hT : TI C.P t sz bt z] (h4 : sz = 4 := by rfl) (hH : H b := by first | trivial | exact feet_row (k := 0) rfl | exact feet_row (k := 1) rfl | exact feet_row (k := 2) rfl | exact feet_row (k := 3) rfl | exact feet_row (k := 4) rfl | exact feet_row (k := 5) rfl | exact feet_row (k := 6) rfl | exact feet_row (k := 7) rfl | exact feet_row (k := 8) rfl | exact feet_row (k := 6) rfl) (hd : Desc.aggB d = true := by rfl) :
    WT C (Hold H) ⟨dst, .load t x, ty, pos, af, g⟩ (agg (bs.map ub)) env loc := by
  subst h4
  have h := WT_loada (C := C) (dst := dst) (ty := ty) (pos := pos) (af := af) (g := g) hx he hu hH hd (by rw [Nat.zero_add, List.length_map, hlen]; rfl)
  rwa [List.drop_zero, List.take_of_length_le (by rw [List.length_map, hlen]; exact Nat.le_refl _)] at h
end
end Go.Fr

/- Texts: strings whose bytes are known as a list. No program in sight. -/
namespace Go.Fr
open Go.RowKit Go.Kx
abbrev exT (l : List UInt8) : SP := ex (.string ⟨l.toArray⟩)
theorem ba_inj {p q : List UInt8} : ((⟨p.toArray⟩ : ByteArray) = ⟨q.toArray⟩) ↔ p = q := by
  constructor
  · intro h
    injection h with h
    simpa using h
  · rintro rfl; rfl
theorem ba_get {l : List UInt8} {i : Nat} : (⟨l.toArray⟩ : ByteArray)[i]? = l[i]? := by
  by_cases h : i < l.length
  · rw [List.getElem?_eq_getElem h]
    have h2 : i < (⟨l.toArray⟩ : ByteArray).size := by show i < l.toArray.size; simpa using h
    rw [getElem?_pos (⟨l.toArray⟩ : ByteArray) i h2]
    congr 1
  · rw [List.getElem?_eq_none (by omega)]
    have h2 : ¬ i < (⟨l.toArray⟩ : ByteArray).size := by show ¬ i < l.toArray.size; simpa using h
    rw [getElem?_neg (⟨l.toArray⟩ : ByteArray) i h2]
section
variable {C : Cx} {S : (Nat → Prop) → World → World → Prop} {H : Nat → Prop} {env : Env} {loc : List Ent} {dst : Option Tmp} {ty : TypeId} {pos : String} {af : Array Edge} {g : Option (Nat × Bool)}
theorem g_idxt {t : TypeId} {x y : Operand} {p : SP} (h : WT C S ⟨dst, .index t x y, ty, pos, af, g⟩ p env loc) : WT C S ⟨dst, .index t x y, ty, pos, af, g⟩ p env loc := h
theorem WT_idxt {l : List UInt8} {t : TypeId} {x y : Operand} {k : IntKind} {m : Int} {i : Nat} (hx : ev env x = some (exT l)) (hy : ev env y = some (exI k m)) [hm : Nt m i] (ht : C.P.underlying t = some .string) (hl : i < l.length := by first | omega | (simp; done) | (simp; omega)) :
    WT C S ⟨dst, .index t x y, ty, pos, af, g⟩ (exI .u8 (l[i].toNat : Int)) env loc := by
  constructor
  intro F a w hR
  obtain ⟨rfl⟩ := hm
  have hv : a.eval x = .string ⟨l.toArray⟩ := ev_eval hR hx
  have hvy : a.eval y = .int k i := ev_eval hR hy
  refine ⟨_, rfl, fun w' _ => ?_⟩
  have hg : (⟨l.toArray⟩ : ByteArray)[i]? = some l[i] := by rw [ba_get, List.getElem?_eq_getElem hl]
  generalize a.eval = ρ at hv hvy ⊢
  generalize (⟨l.toArray⟩ : ByteArray) = s at hv hg
  simp [execOp, hv, hvy, Instr.index, asIntOf, run_und ht, go_sem, hg]
theorem WT_lent {l : List UInt8} {x : Operand} {t : TypeId} (h : ev env x = some (exT l)) (ht : C.P.underlying t = some .string) : WT C S ⟨dst, .call ⟨.builtin .len, #[x], #[t]⟩, ty, pos, af, g⟩ (exI .i64 l.length) env loc := by
  have := WT_lens (C := C) (S := S) (loc := loc) (dst := dst) (ty := ty) (pos := pos) (af := af) (g := g) h ht
  have e : (⟨l.toArray⟩ : ByteArray).size = l.length := by show l.toArray.size = l.length; simp
  rwa [e] at this
theorem WT_teq {x y : Operand} {t u : TypeId} {p q : List UInt8} (hx : ev env x = some (exT p)) (hy : ev env y = some (exT q)) : WT C S ⟨dst, .binOp .eql t x y u, ty, pos, af, g⟩ (exB (decide (p = q))) env loc := by
  have := WT_seq (C := C) (S := S) (loc := loc) (dst := dst) (ty := ty) (pos := pos) (af := af) (g := g) (t := t) (u := u) hx hy
  rwa [show decide ((⟨p.toArray⟩ : ByteArray) = ⟨q.toArray⟩) = decide (p = q) from decide_eq_decide.2 ba_inj] at this
theorem WT_tne {x y : Operand} {t u : TypeId} {p q : List UInt8} (hx : ev env x = some (exT p)) (hy : ev env y = some (exT q)) : WT C S ⟨dst, .binOp .neq t x y u, ty, pos, af, g⟩ (exB (!decide (p = q))) env loc := by
  have := WT_sne (C := C) (S := S) (loc := loc) (dst := dst) (ty := ty) (pos := pos) (af := af) (g := g) (t := t) (u := u) hx hy
  rwa [show decide ((⟨p.toArray⟩ : ByteArray) = ⟨q.toArray⟩) = decide (p = q) from decide_eq_decide.2 ba_inj] at this
end
end Go.Fr

/- Rows of strings and of integers. No program in sight. -/
namespace Go.Fr
open Go.RowKit Go.Kx
def eStr : Enc (List UInt8) where
  size := 1
  bytes := 16
  rel _ _ cs a := cs = [.string ⟨a.toArray⟩]
  len h := by subst h; rfl
  mono h _ := h
def strV (s : List UInt8) : List SP := [exT s]
instance fits_str : Fits eStr strV where
  out h := fit_one.2 h
  inn h := fit_one.1 h
def eI : Enc Int where
  size := 1
  bytes := 8
  rel _ _ cs a := cs = [.int .i64 a]
  len h := by subst h; rfl
  mono h _ := h
def intV (n : Int) : List SP := [exI .i64 n]
instance fits_int : Fits eI intV where
  out h := fit_one.2 h
  inn h := fit_one.1 h
theorem WT_teq_t {C : Cx} {S : (Nat → Prop) → World → World → Prop} {env : Env} {loc : List Ent} {dst : Option Tmp} {ty : TypeId} {pos : String} {af : Array Edge} {g : Option (Nat × Bool)} {x y : Operand} {t u : TypeId} {p q : List UInt8} (hx : ev env x = some (exT p)) (hy : ev env y = some (exT q)) (h : p = q) : WT C S ⟨dst, .binOp .eql t x y u, ty, pos, af, g⟩ (exB true) env loc := by
  have := WT_teq (C := C) (S := S) (loc := loc) (dst := dst) (ty := ty) (pos := pos) (af := af) (g := g) (t := t) (u := u) hx hy
  rwa [decide_eq_true h] at this
theorem WT_teq_f {C : Cx} {S : (Nat → Prop) → World → World → Prop} {env : Env} {loc : List Ent} {dst : Option Tmp} {ty : TypeId} {pos : String} {af : Array Edge} {g : Option (Nat × Bool)} {x y : Operand} {t u : TypeId} {p q : List UInt8} (hx : ev env x = some (exT p)) (hy : ev env y = some (exT q)) (h : ¬ p = q) : WT C S ⟨dst, .binOp .eql t x y u, ty, pos, af, g⟩ (exB false) env loc := by
  have := WT_teq (C := C) (S := S) (loc := loc) (dst := dst) (ty := ty) (pos := pos) (af := af) (g := g) (t := t) (u := u) hx hy
  rwa [decide_eq_false h] at this
end Go.Fr

/- Frame: encodings out of what is known of cells; maps; boxes that are written no more; calls that are handed several things. No program in sight. -/
namespace Go.Fr
open Go.RowKit Go.Kx

/-! ### Encodings -/
def encS {α : Type} (fs : α → List SP) (sz bt : Nat) : Enc α where
  size := sz
  bytes := bt
  rel F w cs a := cs.length = sz ∧ CellsR F w (fs a) cs
  len h := h.1
  mono h hk := ⟨h.1, h.2.mono hk⟩
class LenS {α : Type} (fs : α → List SP) (sz : outParam Nat) : Prop where
  len : ∀ a, (fs a).length = sz
instance fits_encS {α : Type} {fs : α → List SP} {sz bt : Nat} [h : LenS fs sz] : Fits (encS fs sz bt) fs where
  out h := h.2
  inn h' := ⟨h'.len.trans (h.len _), h'⟩

/-! ### Things owned that change, and new ones -/
theorem Rel.writeE {C : Cx} {F : Nat → Prop} {env : Env} {loc : List Ent} {a : Act} {w w' : World} {k b : Nat} {e e' : Ent} (hR : Rel C F env loc a w) (he : loc[k]? = some e) (hf : e.foot = [b]) (hf' : e'.foot = [b])
    (hrel : (∀ j, F j → j < w.heap.size → F j ∧ w'.heap[j]? = w.heap[j]?) → e'.rel F w') (ho : ∀ j, j ≠ b → w'.heap[j]? = w.heap[j]?) (hos : w'.os = w.os) (htp : w'.tape = w.tape) (hout : w'.output = w.output) (hs : w'.heap.size = w.heap.size) :
    Rel C F env (loc.set k e') a w' := by
  have hk : k < loc.length := (List.getElem?_eq_some_iff.1 he).1
  have hmem : e ∈ loc ++ C.out := List.mem_append_left _ (List.mem_of_getElem? he)
  have hbe : b ∈ e.foot := by rw [hf]; simp
  have hbF : ¬ F b := (hR.good.lt _ hmem b hbe).2
  have hm : ∀ j, F j → j < w.heap.size → F j ∧ w'.heap[j]? = w.heap[j]? := fun j h1 _ => ⟨h1, ho j fun e => hbF (e ▸ h1)⟩
  have hfar : ∀ i (hi : i < (loc ++ C.out).length), i ≠ k → b ∉ ((loc ++ C.out)[i]).foot := by
    intro i hi hne hbi
    have hkk : (loc ++ C.out)[k]'(by rw [List.length_append]; omega) = e := by
      rw [List.getElem_append_left hk]; exact (List.getElem?_eq_some_iff.1 he).2
    rcases Nat.lt_or_gt_of_ne hne with hlt | hlt
    · exact List.pairwise_iff_getElem.1 hR.good.disj i k hi (by rw [List.length_append]; omega) hlt b hbi (by rw [hkk]; exact hbe)
    · exact List.pairwise_iff_getElem.1 hR.good.disj k i (by rw [List.length_append]; omega) hi hlt b (by rw [hkk]; exact hbe) hbi
  have hset : loc.set k e' ++ C.out = (loc ++ C.out).set k e' := by rw [List.set_append_left _ _ hk]
  refine ⟨⟨?_, ?_, ?_⟩, fun t q hq => q.mono (hR.env t q hq) hm, hR.size, hR.defers, ?_, ?_, hR.grow⟩
  · rw [hset]
    intro e2 he'
    obtain ⟨i, hi, rfl⟩ := List.mem_iff_getElem.1 he'
    rw [List.getElem_set]
    have hi2 : i < (loc ++ C.out).length := by simpa using hi
    split
    · exact hrel hm
    · rename_i hne
      refine ((loc ++ C.out)[i]).mono (hR.good.rel _ (List.getElem_mem hi2)) hm fun j hj => ho j fun e => ?_
      subst e
      exact hfar i hi2 (Ne.symm hne) hj
  · rw [hset]
    intro e2 he' j hj
    rw [hs]
    rcases List.mem_or_eq_of_mem_set he' with h | rfl
    · exact hR.good.lt e2 h j hj
    · rw [hf', ← hf] at hj
      exact hR.good.lt _ hmem j hj
  · rw [hset]
    rw [List.pairwise_iff_getElem]
    intro i j hi hj hij x hx hx'
    rw [List.getElem_set] at hx hx'
    have hi2 : i < (loc ++ C.out).length := by simpa using hi
    have hj2 : j < (loc ++ C.out).length := by simpa using hj
    have hd := List.pairwise_iff_getElem.1 hR.good.disj i j hi2 hj2 hij
    split at hx <;> split at hx'
    · omega
    · rename_i h1 h2
      rw [hf'] at hx
      have : x = b := by simpa using hx
      subst this
      exact hfar j hj2 (Ne.symm h2) hx'
    · rename_i h1 h2
      rw [hf'] at hx'
      have : x = b := by simpa using hx'
      subst this
      exact hfar i hi2 (Ne.symm h1) hx
    · exact hd x hx hx'
  · refine ⟨hos.trans hR.ch.os, htp.trans hR.ch.tape, hout.trans hR.ch.output, by rw [hs]; exact hR.ch.size, fun j hj hx => (ho j fun e => ?_).trans (hR.ch.block j hj hx)⟩
    subst e
    rcases hR.own _ (List.mem_of_getElem? he) j hbe with h | h
    · omega
    · exact hx h
  · intro e2 he' j hj
    rcases List.mem_or_eq_of_mem_set he' with h | rfl
    · exact hR.own e2 h j hj
    · rw [hf', ← hf] at hj
      exact hR.own _ (List.mem_of_getElem? he) j hj

theorem Rel.allocE {C : Cx} {F : Nat → Prop} {env : Env} {loc : List Ent} {a : Act} {w w' : World} {o : Obj} {e : Ent} {d : Nat} {p : SP} {v : Value} (hR : Rel C F env loc a w) (hw : w'.heap = (w.alloc o).heap) (hos : w'.os = w.os) (htp : w'.tape = w.tape) (hout : w'.output = w.output)
    (hf : e.foot = [w.heap.size]) (hrel : ∀ F', w'.heap[w.heap.size]? = some o → e.rel F' w') (hd : Nat.blt d C.N = true) (hp : ∀ F', p.rel F' w' v) :
    Rel C (fun k => F k ∧ k < w.heap.size) ((d, p) :: env) (e :: loc) (a.put (some d) v) w' := by
  have hb : ∀ k, k < w.heap.size → w'.heap[k]? = w.heap[k]? := fun k hk => by rw [hw]; exact Below.heap_alloc w _ k hk
  have hsz : w'.heap.size = w.heap.size + 1 := by rw [hw]; simp
  have hm : ∀ b, F b → b < w.heap.size → (F b ∧ b < w.heap.size) ∧ w'.heap[b]? = w.heap[b]? := fun b h1 h2 => ⟨⟨h1, h2⟩, hb b h2⟩
  refine hR.next ⟨?_, ?_, ?_⟩ hm ?_ ?_ hd (hp _)
  · intro e2 he
    rcases List.mem_cons.1 he with rfl | he
    · refine hrel _ ?_
      rw [hw]; show (w.heap.push _)[w.heap.size]? = _; simp
    · exact e2.mono (hR.good.rel e2 he) hm fun b hb' => hb b (hR.good.lt e2 he b hb').1
  · intro e2 he b hb'
    rcases List.mem_cons.1 he with rfl | he
    · rw [hf] at hb'
      have : b = w.heap.size := by simpa using hb'
      subst this
      exact ⟨by omega, fun h => Nat.lt_irrefl _ h.2⟩
    · have := hR.good.lt e2 he b hb'
      exact ⟨by omega, fun h => this.2 h.1⟩
  · refine List.pairwise_cons.2 ⟨fun e2 he b hb' hb2 => ?_, hR.good.disj⟩
    rw [hf] at hb'
    have : b = w.heap.size := by simpa using hb'
    subst this
    exact Nat.lt_irrefl _ (hR.good.lt e2 he _ hb2).1
  · refine ⟨hos.trans hR.ch.os, htp.trans hR.ch.tape, hout.trans hR.ch.output, by have := hR.ch.size; omega, fun k hk hx => (hb k (Nat.lt_of_lt_of_le hk hR.ch.size)).trans (hR.ch.block k hk hx)⟩
  · intro e2 he b hb'
    rcases List.mem_cons.1 he with rfl | he
    · rw [hf] at hb'
      have : b = w.heap.size := by simpa using hb'
      subst this
      exact .inl hR.ch.size
    · exact hR.own e2 he b hb'

/-- Something owned is owned no more, and is known in another way. -/
theorem Leads_frz {C : Cx} {env : Env} {loc : List Ent} {k : Nat} {e : Ent} {t : Nat} {q p : SP} (he : loc[k]? = some e) (ht : look t env = some q)
    (hc : ∀ F w v, e.rel F w → (∀ b ∈ e.foot, b < w.heap.size) → q.rel F w v → p.rel (fun j => F j ∨ j ∈ e.foot) w v) : Leads C env loc ((t, p) :: env) (loc.eraseIdx k) := by
  intro F a w hR
  have hmem : e ∈ loc ++ C.out := List.mem_append_left _ (List.mem_of_getElem? he)
  have hm : ∀ j, F j → j < w.heap.size → (F j ∨ j ∈ e.foot) ∧ w.heap[j]? = w.heap[j]? := fun j hj _ => ⟨.inl hj, rfl⟩
  have hperm := ((erase_perm he).append_right C.out)
  have hG := hR.good.perm hperm
  have hdis : ∀ e2 ∈ loc.eraseIdx k ++ C.out, ∀ b ∈ e2.foot, b ∉ e.foot := by
    intro e2 h2 b hb hb2
    have hd := hG.disj
    rw [List.cons_append] at hd
    exact (List.pairwise_cons.1 hd).1 e2 h2 b hb2 hb
  have hsub : ∀ e2 ∈ loc.eraseIdx k ++ C.out, e2 ∈ loc ++ C.out := fun e2 h => by
    rcases List.mem_append.1 h with h | h
    · exact List.mem_append_left _ (List.mem_of_mem_eraseIdx h)
    · exact List.mem_append_right _ h
  refine ⟨fun j => F j ∨ j ∈ e.foot, ⟨fun e2 h2 => e2.mono (hR.good.rel e2 (hsub e2 h2)) hm fun _ _ => rfl, fun e2 h2 j hj => ⟨(hR.good.lt e2 (hsub e2 h2) j hj).1, ?_⟩, ?_⟩, fun t' q' hq => ?_, hR.size, hR.defers, hR.ch, fun e2 h2 => hR.own e2 (List.mem_of_mem_eraseIdx h2), fun j hj hlt => .inl (hR.grow j hj hlt)⟩
  · rintro (h | h)
    · exact (hR.good.lt e2 (hsub e2 h2) j hj).2 h
    · exact hdis e2 h2 j hj h
  · have := hG.disj
    rw [List.cons_append] at this
    exact (List.pairwise_cons.1 this).2
  · rw [look_cons] at hq
    split at hq
    · rename_i e2; cases hq; subst e2
      exact hc F w _ (hR.good.rel e hmem) (fun b hb => (hR.good.lt e hmem b hb).1) (hR.env _ _ ht)
    · exact q'.mono (hR.env t' q' hq) hm

/-- The address of cells that nobody writes any more, and the block. -/
def fpx (b : Nat) (ps : List SP) : SP where
  rel F w v := v = .pointer (some ⟨b, 0, none⟩) ∧ F b ∧ b < w.heap.size ∧ ∀ (i : Nat) (p : SP), ps[i]? = some p → ∃ u, w.cell? ⟨b, i, none⟩ = some u ∧ p.rel F w u
  mono := by
    rintro S S' w w' v ⟨rfl, h1, h2, h3⟩ hk
    obtain ⟨hb, hw⟩ := hk b h1 h2
    refine ⟨rfl, hb, ?_, fun i p hp => ?_⟩
    · have : w.heap[b]? ≠ none := by rw [Array.getElem?_eq_getElem h2]; simp
      rw [← hw] at this
      exact Nat.lt_of_not_le fun h => this (Array.getElem?_eq_none h)
    · obtain ⟨u, h4, h5⟩ := h3 i p hp
      exact ⟨u, (World.cell?_of_block (w := w) hw).trans h4, p.mono h5 hk⟩
theorem Leads_fpx {C : Cx} {env : Env} {loc : List Ent} {k b T tot t : Nat} {ps : List SP} (he : loc[k]? = some (row b T tot ps)) (ht : look t env = some (ex (.pointer (some ⟨b, 0, none⟩)))) : Leads C env loc ((t, fpx b ps) :: env) (loc.eraseIdx k) := by
  refine Leads_frz he ht ?_
  rintro F w v ⟨cur, h1, h2, h3⟩ hlt hv
  refine ⟨hv, .inr (by simp [row]), hlt b (by simp [row]), fun i p hp => ?_⟩
  obtain ⟨u, h4, h5⟩ := h3 i p hp
  exact ⟨u, by simp [World.cell?, h1, h4], p.mono h5 fun j hj _ => ⟨.inl hj, rfl⟩⟩
theorem Im_fpx {b : Nat} {ps : List SP} : Im (fpx b ps) (ex (.pointer (some ⟨b, 0, none⟩))) := fun _ _ _ h => h.1
theorem Im_fpx_fp {b : Nat} {ps : List SP} : Im (fpx b ps) (fp ps) := fun _ _ _ h => ⟨b, 0, h.1, h.2.1, h.2.2.1, fun i p hp => by rw [Nat.zero_add]; exact h.2.2.2 i p hp⟩

/-! ### Maps -/
class MK (κ : Type) [DecidableEq κ] where
  val : κ → Value
  ok : TypeDesc → Prop
  same : ∀ {d a b}, ok d → Instr.sameNow d (val a) (val b) = some (decide (a = b))
  check : ∀ {P : Program} {t d e n a w}, P.underlying t = some d → ok d → (Instr.checkKey e (n + 1) t (val a)).run P w = .ok () w
  bits : ∀ a, Instr.sameBits 10000 (val a) (val a) = true
theorem ba_beq (a b : ByteArray) : (a == b) = true ↔ a = b := by
  cases a with | mk x => cases b with | mk y =>
  show (x == y) = true ↔ _
  rw [beq_iff_eq]
  constructor
  · rintro rfl; rfl
  · intro h; injection h
instance mkStr : MK (List UInt8) where
  val s := .string ⟨s.toArray⟩
  ok d := d = .string
  same := by
    rintro d a b rfl
    simp only [Instr.sameNow, Option.some.injEq]
    rw [Bool.eq_iff_iff, decide_eq_true_eq, ba_beq]
    exact ba_inj
  check := by
    rintro P t d e n a w h rfl
    simp [Instr.checkKey, run_und h, go_sem]
  bits a := by
    show ((⟨a.toArray⟩ : ByteArray) == ⟨a.toArray⟩) = true
    exact (ba_beq _ _).2 rfl
instance mkInt : MK Int where
  val n := .int .i64 n
  ok d := ∃ k, d = .int k
  same := by
    rintro d a b ⟨k, rfl⟩
    simp only [Instr.sameNow, if_true, Option.some.injEq]
    rw [Bool.eq_iff_iff, decide_eq_true_eq, beq_iff_eq]
  check := by
    rintro P t d e n a w h ⟨k, rfl⟩
    simp [Instr.checkKey, run_und h, go_sem]
  bits a := by
    show (IntKind.i64 == IntKind.i64 && a == a) = true
    simp

def mapR {κ : Type} [DecidableEq κ] [MK κ] (F : Nat → Prop) (w : World) (b : Nat) (m : List (κ × SP)) : Prop :=
  ∃ es clock, w.heap[b]? = some (.map es clock) ∧ es.size = m.length ∧ ∀ (i : Nat) (k : κ) (p : SP), m[i]? = some (k, p) → ∃ e, es[i]? = some e ∧ e.key = MK.val k ∧ p.rel F w e.val
theorem mapR.mono {κ : Type} [DecidableEq κ] [MK κ] {S S' : Nat → Prop} {w w' : World} {b : Nat} {m : List (κ × SP)} (h : mapR S w b m) (hk : ∀ j, S j → j < w.heap.size → S' j ∧ w'.heap[j]? = w.heap[j]?) (hb : w'.heap[b]? = w.heap[b]?) : mapR S' w' b m :=
  let ⟨es, c, h1, h2, h3⟩ := h
  ⟨es, c, hb.trans h1, h2, fun i k p hp => let ⟨e, h4, h5, h6⟩ := h3 i k p hp; ⟨e, h4, h5, p.mono h6 hk⟩⟩
/-- A map of one's own. -/
def omap {κ : Type} [DecidableEq κ] [MK κ] (b : Nat) (m : List (κ × SP)) : Ent where
  foot := [b]
  rel F w := mapR F w b m
  mono h hk hf := h.mono hk (hf b (by simp))
/-- A map that nobody writes any more. -/
def fmap {κ : Type} [DecidableEq κ] [MK κ] (m : List (κ × SP)) : SP where
  rel F w v := ∃ b, v = .map (some b) ∧ F b ∧ b < w.heap.size ∧ mapR F w b m
  mono := by
    rintro S S' w w' v ⟨b, rfl, h1, h2, h3⟩ hk
    obtain ⟨hb, hw⟩ := hk b h1 h2
    refine ⟨b, rfl, hb, ?_, h3.mono hk hw⟩
    have : w.heap[b]? ≠ none := by rw [Array.getElem?_eq_getElem h2]; simp
    rw [← hw] at this
    exact Nat.lt_of_not_le fun h => this (Array.getElem?_eq_none h)
instance {κ : Type} [DecidableEq κ] [MK κ] {m : List (κ × SP)} : Sc (fmap m) := ⟨by rintro F w v ⟨b, rfl, _⟩; rfl⟩
instance {b : Nat} {ps : List SP} : Sc (fpx b ps) := ⟨by rintro F w v ⟨rfl, _⟩; rfl⟩
theorem Leads_fmap {κ : Type} [DecidableEq κ] [MK κ] {C : Cx} {env : Env} {loc : List Ent} {k b t : Nat} {m : List (κ × SP)} (he : loc[k]? = some (omap b m)) (ht : look t env = some (ex (.map (some b)))) : Leads C env loc ((t, fmap m) :: env) (loc.eraseIdx k) := by
  refine Leads_frz he ht ?_
  rintro F w v h hlt hv
  exact ⟨b, hv, .inr (by simp [omap]), hlt b (by simp [omap]), h.mono (fun j hj _ => ⟨.inl hj, rfl⟩) rfl⟩

def mlook {κ : Type} [DecidableEq κ] [MK κ] : List (κ × SP) → κ → Option SP
  | [], _ => none
  | (k, p) :: r, x => if x = k then some p else mlook r x
def mput {κ : Type} [DecidableEq κ] [MK κ] : List (κ × SP) → κ → SP → List (κ × SP)
  | [], x, p => [(x, p)]
  | (k, q) :: r, x, p => if x = k then (k, p) :: r else (k, q) :: mput r x p

theorem findNow_none {κ : Type} [DecidableEq κ] [MK κ] {d : TypeDesc} (hd : MK.ok κ d) {x : κ} : ∀ (m : List (κ × SP)) (es : List MapEntry) (i0 : Nat), es.length = m.length → (∀ (i : Nat) (k : κ) (p : SP), m[i]? = some (k, p) → ∃ e, es[i]? = some e ∧ e.key = MK.val k) → mlook m x = none → Instr.findNow d (MK.val x) es i0 = some none
  | [], es, i0, hl, _, _ => by
    have : es = [] := by simpa using hl
    subst this; rfl
  | (k, p) :: r, [], _, hl, _, _ => by simp at hl
  | (k, p) :: r, e :: es, i0, hl, h, hm => by
    obtain ⟨e', h1, h2⟩ := h 0 k p rfl
    simp only [List.getElem?_cons_zero, Option.some.injEq] at h1
    subst h1
    unfold mlook at hm
    split at hm
    · cases hm
    · rename_i hne
      simp only [Instr.findNow, h2, MK.same hd, decide_eq_false hne]
      exact findNow_none hd r es (i0 + 1) (by simpa using hl) (fun i k p hp => h (i + 1) k p (by simpa using hp)) hm
theorem findNow_some {κ : Type} [DecidableEq κ] [MK κ] {d : TypeDesc} (hd : MK.ok κ d) {x : κ} {q : SP} {F : Nat → Prop} {w : World} : ∀ (m : List (κ × SP)) (es : List MapEntry) (i0 : Nat), es.length = m.length → (∀ (i : Nat) (k : κ) (p : SP), m[i]? = some (k, p) → ∃ e, es[i]? = some e ∧ e.key = MK.val k ∧ p.rel F w e.val) → mlook m x = some q →
    ∃ i v, Instr.findNow d (MK.val x) es i0 = some (some (i0 + i, v)) ∧ q.rel F w v ∧ m[i]? = some (x, q) ∧ ∀ p, mput m x p = m.set i (x, p)
  | [], _, _, _, _, hm => by cases hm
  | (k, p) :: r, [], _, hl, _, _ => by simp at hl
  | (k, p) :: r, e :: es, i0, hl, h, hm => by
    obtain ⟨e', h1, h2, h3⟩ := h 0 k p rfl
    simp only [List.getElem?_cons_zero, Option.some.injEq] at h1
    subst h1
    unfold mlook at hm
    split at hm
    · rename_i heq
      subst heq
      cases hm
      exact ⟨0, e.val, by simp only [Instr.findNow, h2, MK.same hd, decide_true]; rfl, h3, rfl, fun p => by simp [mput]⟩
    · rename_i hne
      obtain ⟨i, v, h4, h5, h6, h7⟩ := findNow_some hd r es (i0 + 1) (by simpa using hl) (fun i k p hp => h (i + 1) k p (by simpa using hp)) hm
      refine ⟨i + 1, v, ?_, h5, by simpa using h6, fun p => by simp [mput, hne, h7]⟩
      simp only [Instr.findNow, h2, MK.same hd, decide_eq_false hne, h4]
      congr 3; omega
theorem mput_new {κ : Type} [DecidableEq κ] [MK κ] {x : κ} {p : SP} : ∀ (m : List (κ × SP)), mlook m x = none → mput m x p = m ++ [(x, p)]
  | [], _ => rfl
  | (k, q) :: r, h => by
    unfold mlook at h
    split at h
    · cases h
    · rename_i hne
      simp [mput, hne, mput_new r h]

theorem run_findKey {P : Program} {t : TypeId} {d : TypeDesc} {x : Value} {es : List MapEntry} {r : Option (Nat × Value)} (ht : P.underlying t = some d) (h : Instr.findNow d x es 0 = some r) (w : World) : (Instr.findKey t x es).run P w = .ok r w := by
  simp [Instr.findKey, run_und ht, go_sem, h]

section
variable {C : Cx} {H : Nat → Prop} {l0 : List Ent} {env : Env} {loc : List Ent} {d : Nat} {dst : Option Tmp} {ty : TypeId} {pos : String} {af : Array Edge} {g : Option (Nat × Bool)} {K : Env → List Ent → Prop}

theorem g_lookup {t : TypeId} {x y : Operand} {c : Bool} {p : SP} {S : (Nat → Prop) → World → World → Prop} (h : WT C S ⟨dst, .lookup t x y c, ty, pos, af, g⟩ p env loc) : WT C S ⟨dst, .lookup t x y c, ty, pos, af, g⟩ p env loc := h
theorem g_nilck {x : Operand} {p : SP} {S : (Nat → Prop) → World → World → Prop} (h : WT C S ⟨dst, .nilCheck x, ty, pos, af, g⟩ p env loc) : WT C S ⟨dst, .nilCheck x, ty, pos, af, g⟩ p env loc := h
theorem g_mkmap {t : TypeId} {x : Option Operand} (h : WO C H ⟨dst, .makeMap t x, ty, pos, af, g⟩ K env loc) : WO C H ⟨dst, .makeMap t x, ty, pos, af, g⟩ K env loc := h
theorem g_mapup {t : TypeId} {x y z : Operand} (h : WO C H ⟨dst, .mapUpdate t x y z, ty, pos, af, g⟩ K env loc) : WO C H ⟨dst, .mapUpdate t x y z, ty, pos, af, g⟩ K env loc := h
theorem g_insert {t : TypeId} {x y z : Operand} (h : WO C H ⟨dst, .insert t x y z, ty, pos, af, g⟩ K env loc) : WO C H ⟨dst, .insert t x y z, ty, pos, af, g⟩ K env loc := h

theorem WT_nilck {S : (Nat → Prop) → World → World → Prop} {b off : Nat} {x : Operand} (hx : ev env x = some (ex (.pointer (some ⟨b, off, none⟩)))) : WT C S ⟨dst, .nilCheck x, ty, pos, af, g⟩ (ex (.pointer (some ⟨b, off, none⟩))) env loc := by
  constructor
  intro F a w hR
  have hv : a.eval x = .pointer (some ⟨b, off, none⟩) := ev_eval hR hx
  refine ⟨_, rfl, fun w' _ => ?_⟩
  generalize a.eval = ρ at hv ⊢
  simp [execOp, hv, go_sem]

theorem lookup_hit {κ : Type} [DecidableEq κ] [MK κ] {P : Program} {t kt et : TypeId} {dk : TypeDesc} {b : Nat} {m : List (κ × SP)} {x : κ} {p : SP} {F : Nat → Prop} {w w' : World} (ht : P.underlying t = some (.map kt et)) (hk : P.underlying kt = some dk) (hok : MK.ok κ dk) (hm : mapR F w b m) (hb : w'.heap[b]? = w.heap[b]?) (hl : mlook m x = some p) :
    ∃ v, (∀ c, (Instr.lookup t (.map (some b)) (MK.val x) c).run P w' = .ok (if c then .tuple #[v, .bool true] else v) w') ∧ p.rel F w v := by
  obtain ⟨es, clock, h1, h2, h3⟩ := hm
  obtain ⟨i, v, h4, h5, _⟩ := findNow_some hok m es.toList 0 (by simpa using h2) (fun i k p hp => by simpa using h3 i k p hp) hl
  refine ⟨v, fun c => ?_, h5⟩
  have hf := run_findKey (P := P) hk h4
  simp [Instr.lookup, run_und ht, go_sem, Go.MapKept.run_getObj_map (hb.trans h1), MK.check hk hok, hf]
theorem lookup_miss {κ : Type} [DecidableEq κ] [MK κ] {P : Program} {t kt et : TypeId} {dk : TypeDesc} {b : Nat} {m : List (κ × SP)} {x : κ} {F : Nat → Prop} {w w' : World} {sz bt : Nat} {z : Value} (ht : P.underlying t = some (.map kt et)) (hk : P.underlying kt = some dk) (hok : MK.ok κ dk) [hT : TI P et sz bt z] (hm : mapR F w b m) (hb : w'.heap[b]? = w.heap[b]?) (hl : mlook m x = none) :
    ∀ c, (Instr.lookup t (.map (some b)) (MK.val x) c).run P w' = .ok (if c then .tuple #[z, .bool false] else z) w' := by
  obtain ⟨es, clock, h1, h2, h3⟩ := hm
  obtain ⟨ti, hi, _, _, hz⟩ := hT.out
  have h4 := findNow_none hok m es.toList 0 (by simpa using h2) (fun i k p hp => by obtain ⟨e, h5, h6, _⟩ := h3 i k p hp; exact ⟨e, by simpa using h5, h6⟩) hl
  intro c
  have hf := run_findKey (P := P) hk h4
  simp [Instr.lookup, run_und ht, go_sem, Go.MapKept.run_getObj_map (hb.trans h1), MK.check hk hok, hf, zeroValue, run_inf hi, hz]

/-- A map's value as it is known: a map of one's own, or a frozen one. -/
theorem WT_lookf {κ : Type} [DecidableEq κ] [MK κ] {m : List (κ × SP)} {k : κ} {p : SP} {t kt et : TypeId} {dk : TypeDesc} {x y : Operand} (hx : ev env x = some (fmap m)) (hy : ev env y = some (ex (MK.val k))) (hl : mlook m k = some p) (ht : C.P.underlying t = some (.map kt et)) (hk : C.P.underlying kt = some dk) (hok : MK.ok κ dk) : WT C (Hold H) ⟨dst, .lookup t x y true, ty, pos, af, g⟩ (tup [p, exB true]) env loc := by
  constructor
  intro F a w hR
  obtain ⟨b, hv, h1, h2, h3⟩ := ev_eval hR hx
  have hvy : a.eval y = MK.val k := ev_eval hR hy
  obtain ⟨es, clock, h4, h5, h6⟩ := h3
  obtain ⟨i, v, h7, h8, _⟩ := findNow_some hok m es.toList 0 (by simpa using h5) (fun i k p hp => by simpa using h6 i k p hp) hl
  refine ⟨.tuple #[v, .bool true], ⟨[v, .bool true], rfl, .cons h8 (.cons rfl .nil)⟩, fun w' hs => ?_⟩
  have hf := run_findKey (P := C.P) hk h7
  have hb := hs b h2 (.inl h1)
  generalize a.eval = ρ at hv hvy ⊢
  simp [execOp, hv, hvy, Instr.lookup, run_und ht, go_sem, Go.MapKept.run_getObj_map (hb.trans h4), MK.check hk hok, hf]
theorem WT_lookf0 {κ : Type} [DecidableEq κ] [MK κ] {m : List (κ × SP)} {k : κ} {t kt et : TypeId} {dk : TypeDesc} {x y : Operand} {sz bt : Nat} {z : Value} (hx : ev env x = some (fmap m)) (hy : ev env y = some (ex (MK.val k))) (hl : mlook m k = none) (ht : C.P.underlying t = some (.map kt et)) (hk : C.P.underlying kt = some dk) (hok : MK.ok κ dk) [hT : TI C.P et sz bt z] : WT C (Hold H) ⟨dst, .lookup t x y true, ty, pos, af, g⟩ (tup [ex z, exB false]) env loc := by
  constructor
  intro F a w hR
  obtain ⟨b, hv, h1, h2, h3⟩ := ev_eval hR hx
  have hvy : a.eval y = MK.val k := ev_eval hR hy
  refine ⟨.tuple #[z, .bool false], ⟨[z, .bool false], rfl, .cons rfl (.cons rfl .nil)⟩, fun w' hs => ?_⟩
  have hr := lookup_miss (w' := w') (hT := hT) ht hk hok h3 (hs b h2 (.inl h1)) hl true
  generalize a.eval = ρ at hv hvy ⊢
  simp [execOp, hv, hvy, hr, go_sem]
theorem WT_looko {κ : Type} [DecidableEq κ] [MK κ] {m : List (κ × SP)} {k : κ} {p : SP} {j b : Nat} {t kt et : TypeId} {dk : TypeDesc} {x y : Operand} (hx : ev env x = some (ex (.map (some b)))) (he : loc[j]? = some (omap b m)) (hy : ev env y = some (ex (MK.val k))) (hl : mlook m k = some p) (ht : C.P.underlying t = some (.map kt et)) (hk : C.P.underlying kt = some dk) (hok : MK.ok κ dk) (hH : H b) : WT C (Hold H) ⟨dst, .lookup t x y true, ty, pos, af, g⟩ (tup [p, exB true]) env loc := by
  constructor
  intro F a w hR
  have hv : a.eval x = .map (some b) := ev_eval hR hx
  have hvy : a.eval y = MK.val k := ev_eval hR hy
  have hmem : omap b m ∈ loc ++ C.out := List.mem_append_left _ (List.mem_of_getElem? he)
  have hb := (hR.good.lt _ hmem b (by simp [omap])).1
  obtain ⟨es, clock, h4, h5, h6⟩ := hR.good.rel _ hmem
  obtain ⟨i, v, h7, h8, _⟩ := findNow_some hok m es.toList 0 (by simpa using h5) (fun i k p hp => by simpa using h6 i k p hp) hl
  refine ⟨.tuple #[v, .bool true], ⟨[v, .bool true], rfl, .cons h8 (.cons rfl .nil)⟩, fun w' hs => ?_⟩
  have hf := run_findKey (P := C.P) hk h7
  have hbw := hs b hb (.inr hH)
  generalize a.eval = ρ at hv hvy ⊢
  simp [execOp, hv, hvy, Instr.lookup, run_und ht, go_sem, Go.MapKept.run_getObj_map (hbw.trans h4), MK.check hk hok, hf]
theorem WT_looko0 {κ : Type} [DecidableEq κ] [MK κ] {m : List (κ × SP)} {k : κ} {j b : Nat} {t kt et : TypeId} {dk : TypeDesc} {x y : Operand} {sz bt : Nat} {z : Value} (hx : ev env x = some (ex (.map (some b)))) (he : loc[j]? = some (omap b m)) (hy : ev env y = some (ex (MK.val k))) (hl : mlook m k = none) (ht : C.P.underlying t = some (.map kt et)) (hk : C.P.underlying kt = some dk) (hok : MK.ok κ dk) (hH : H b) [hT : TI C.P et sz bt z] : WT C (Hold H) ⟨dst, .lookup t x y true, ty, pos, af, g⟩ (tup [ex z, exB false]) env loc := by
  constructor
  intro F a w hR
  have hv : a.eval x = .map (some b) := ev_eval hR hx
  have hvy : a.eval y = MK.val k := ev_eval hR hy
  have hmem : omap b m ∈ loc ++ C.out := List.mem_append_left _ (List.mem_of_getElem? he)
  have hb := (hR.good.lt _ hmem b (by simp [omap])).1
  refine ⟨.tuple #[z, .bool false], ⟨[z, .bool false], rfl, .cons rfl (.cons rfl .nil)⟩, fun w' hs => ?_⟩
  have hr := lookup_miss (w' := w') (hT := hT) ht hk hok (hR.good.rel _ hmem) (hs b hb (.inr hH)) hl true
  generalize a.eval = ρ at hv hvy ⊢
  simp [execOp, hv, hvy, hr, go_sem]

theorem WO_mkmap {κ : Type} [DecidableEq κ] [MK κ] {t : TypeId} (hk : ∀ b, K ((d, ex (.map (some b))) :: env) (omap b ([] : List (κ × SP)) :: loc)) (hd : Nat.blt d C.N = true := by rfl) : WO C H ⟨some d, .makeMap t none, ty, pos, af, g⟩ K env loc := by
  constructor
  intro F a w hR
  have hr : (execOp a.eval ⟨some d, .makeMap t none, ty, pos, af, g⟩).run C.P w = .ok (.value (.map (some w.heap.size))) (w.alloc (.map #[] 0)) := by
    generalize a.eval = ρ
    simp [execOp, Instr.makeMap, newObj, go_sem, Sem.run]
  unfold Oper.wp
  rw [hr]
  have h := hR.allocE (w' := w.alloc (.map #[] 0)) (o := .map #[] 0) (e := omap w.heap.size ([] : List (κ × SP))) (d := d) (p := ex (.map (some w.heap.size))) (v := .map (some w.heap.size)) rfl rfl rfl rfl rfl (fun F' hb => ⟨#[], 0, hb, rfl, fun i k p hp => by simp at hp⟩) hd (fun _ => rfl)
  exact ⟨_, _, _, h, by simp, fun b hb hlt => ⟨hb, hlt⟩, fun b hlt _ => Below.heap_alloc _ _ _ hlt, hk _⟩

theorem run_mapUpdate {κ : Type} [DecidableEq κ] [MK κ] {P : Program} {t kt et : TypeId} {dk : TypeDesc} {b : Nat} {m : List (κ × SP)} {x : κ} {p : SP} {v : Value} {F : Nat → Prop} {w : World} (ht : P.underlying t = some (.map kt et)) (hk : P.underlying kt = some dk) (hok : MK.ok κ dk) (hm : mapR F w b m) (hv : p.rel F w v) :
    ∃ es clock, (Instr.mapUpdate t (.map (some b)) (MK.val x) v).run P w = .ok () { w with heap := w.heap.setIfInBounds b (.map es clock) } ∧ es.size = (mput m x p).length ∧ ∀ (i : Nat) (k : κ) (q : SP), (mput m x p)[i]? = some (k, q) → ∃ e, es[i]? = some e ∧ e.key = MK.val k ∧ q.rel F w e.val := by
  obtain ⟨es, clock, h1, h2, h3⟩ := hm
  cases hl : mlook m x with
  | none =>
    have h4 := findNow_none hok m es.toList 0 (by simpa using h2) (fun i k p hp => by obtain ⟨e, h5, h6, _⟩ := h3 i k p hp; exact ⟨e, by simpa using h5, h6⟩) hl
    have hf := run_findKey (P := P) hk h4
    refine ⟨es.push { key := MK.val x, val := v, born := clock }, clock + 1, ?_, ?_, ?_⟩
    · simp [Instr.mapUpdate, run_und ht, go_sem, Go.MapKept.run_getObj_map h1, MK.check hk hok, hf, Go.MapKept.run_setObj_map _ h1]
    · rw [mput_new m hl]; simp [h2]
    · intro i k q hq
      rw [mput_new m hl] at hq
      by_cases hi : i < m.length
      · rw [List.getElem?_append_left hi] at hq
        obtain ⟨e, h5, h6⟩ := h3 i k q hq
        exact ⟨e, by rw [Array.getElem?_push_lt (by omega)]; rw [Array.getElem?_eq_getElem (by omega)] at h5; exact h5, h6⟩
      · have hi2 : i = m.length := by
          have := (List.getElem?_eq_some_iff.1 hq).1
          simp at this; omega
        subst hi2
        simp at hq
        obtain ⟨rfl, rfl⟩ := hq
        exact ⟨{ key := MK.val x, val := v, born := clock }, by rw [← h2]; simp, rfl, hv⟩
  | some q =>
    obtain ⟨i, u, h4, h5, h6, h7⟩ := findNow_some hok m es.toList 0 (by simpa using h2) (fun i k p hp => by simpa using h3 i k p hp) hl
    rw [Nat.zero_add] at h4
    have hf := run_findKey (P := P) hk h4
    obtain ⟨e0, h8, h9, _⟩ := h3 i x q h6
    have hi : i < es.size := (Array.getElem?_eq_some_iff.1 h8).1
    refine ⟨es.modify i fun e => { e with key := MK.val x, val := v }, clock, ?_, ?_, ?_⟩
    · simp [Instr.mapUpdate, run_und ht, go_sem, Go.MapKept.run_getObj_map h1, MK.check hk hok, hf, h8, h9, Instr.keyThatStays, MK.bits, Go.MapKept.run_setObj_map _ h1]
    · rw [h7]; simp [h2]
    · intro j k q' hq
      rw [h7] at hq
      by_cases hj : j = i
      · subst hj
        rw [List.getElem?_set_self (by omega)] at hq
        cases hq
        exact ⟨{ e0 with key := MK.val x, val := v }, by rw [Array.getElem?_modify]; simp [h8], rfl, hv⟩
      · rw [List.getElem?_set_ne (Ne.symm hj)] at hq
        obtain ⟨e, h10, h11⟩ := h3 j k q' hq
        exact ⟨e, by rw [Array.getElem?_modify, if_neg (Ne.symm hj)]; exact h10, h11⟩

theorem WO_mapupX {κ : Type} [DecidableEq κ] [MK κ] {op : Op} {m : List (κ × SP)} {k : κ} {p : SP} {j b : Nat} {t kt et : TypeId} {dk : TypeDesc} {x y z : Operand} (hop : op = .mapUpdate t x y z ∨ op = .insert t x y z) (hx : ev env x = some (ex (.map (some b)))) (he : loc[j]? = some (omap b m)) (hy : ev env y = some (ex (MK.val k))) (hz : ev env z = some p) (ht : C.P.underlying t = some (.map kt et)) (hk : C.P.underlying kt = some dk) (hok : MK.ok κ dk) (hK : K env (loc.set j (omap b (mput m k p)))) (hH : l0.Sublist (loc.eraseIdx j) := by exact List.nil_sublist _) : WO C (feet l0) ⟨none, op, ty, pos, af, g⟩ K env loc := by
  constructor
  intro F a w hR
  have hv : a.eval x = .map (some b) := ev_eval hR hx
  have hvy : a.eval y = MK.val k := ev_eval hR hy
  have hmem : omap b m ∈ loc ++ C.out := List.mem_append_left _ (List.mem_of_getElem? he)
  have hb := (hR.good.lt _ hmem b (by simp [omap])).1
  obtain ⟨es, clock, h1, h2, h3⟩ := run_mapUpdate (x := k) ht hk hok (hR.good.rel _ hmem) (ev_eval hR hz)
  have hrun : (execOp a.eval ⟨none, op, ty, pos, af, g⟩).run C.P w = .ok .skip { w with heap := w.heap.setIfInBounds b (.map es clock) } := by
    generalize a.eval = ρ at hv hvy h1 ⊢
    rcases hop with rfl | rfl <;> simp [execOp, hv, hvy, h1, go_sem]
  unfold Oper.wp
  rw [hrun]
  have hoth : ∀ i, i ≠ b → ({ w with heap := w.heap.setIfInBounds b (.map es clock) } : World).heap[i]? = w.heap[i]? := fun i hi => by
    simp [Array.getElem?_setIfInBounds_ne (Ne.symm hi)]
  refine ⟨F, env, _, ?_, by simp, fun _ hb _ => hb, fun i hi hF => hoth i ?_, hK⟩
  · refine hR.writeE (b := b) he rfl rfl (fun hm => ⟨es, clock, by simp [hb], h2, fun i k q hq => ?_⟩) hoth rfl rfl rfl (by simp)
    obtain ⟨e, h4, h5, h6⟩ := h3 i k q hq
    exact ⟨e, h4, h5, q.mono h6 hm⟩
  · rintro rfl
    have hbl : i ∈ (omap i m).foot := by simp [omap]
    rcases hF with h | h
    · exact (hR.good.lt _ hmem i hbl).2 h
    · exact hR.good.apart he hbl hH h

/-! ### Calls that are handed several things -/
/-- The things inn out of loc (and copies of things without a block), the others remain. -/
inductive Takes : List Ent → List Ent → List Ent → Prop
  | nil {l : List Ent} : Takes l [] l
  | one {l inn r : List Ent} {e : Ent} (k : Nat) (h : l[k]? = some e) (t : Takes (l.eraseIdx k) inn r) : Takes l (e :: inn) r
  | dup {l inn r : List Ent} {e : Ent} (k : Nat) (h : l[k]? = some e) (hf : e.foot = []) (t : Takes l inn r) : Takes l (e :: inn) r

theorem Takes.good {F : Nat → Prop} {w : World} : ∀ {l inn r out : List Ent}, Takes l inn r → Good F (l ++ out) w → Good F (inn ++ (r ++ out)) w
  | l, _, _, out, .nil, h => h
  | l, _, _, out, .one (inn := inn) (r := r) (e := e) k he t, h => by
    have hp : (l ++ out).Perm (l.eraseIdx k ++ (e :: out)) := ((erase_perm he).append_right out).trans List.perm_middle.symm
    have := t.good (out := e :: out) (h.perm hp)
    refine this.perm ?_
    have h1 : (inn ++ (r ++ e :: out)).Perm (e :: (inn ++ (r ++ out))) := by
      rw [← List.append_assoc, ← List.append_assoc]
      exact List.perm_middle
    exact h1
  | l, _, _, out, .dup (inn := inn) (r := r) (e := e) k he hf t, h => by
    have := t.good (out := out) h
    refine ⟨fun e2 h2 => ?_, fun e2 h2 b hb => ?_, ?_⟩
    · rcases List.mem_cons.1 h2 with rfl | h2
      · exact h.rel _ (List.mem_append_left _ (List.mem_of_getElem? he))
      · exact this.rel e2 h2
    · rcases List.mem_cons.1 h2 with rfl | h2
      · rw [hf] at hb; cases hb
      · exact this.lt e2 h2 b hb
    · exact List.pairwise_cons.2 ⟨fun e2 _ b hb => (by rw [hf] at hb; cases hb), this.disj⟩
theorem Takes.foot : ∀ {l inn r : List Ent}, Takes l inn r → ∀ e ∈ inn, ∀ b ∈ e.foot, ∃ e' ∈ l, b ∈ e'.foot
  | _, _, _, .nil, e, h, _, _ => by cases h
  | l, _, _, .one k he t, e, h, b, hb => by
    rcases List.mem_cons.1 h with rfl | h
    · exact ⟨_, List.mem_of_getElem? he, hb⟩
    · obtain ⟨e', h1, h2⟩ := t.foot e h b hb
      exact ⟨e', List.mem_of_mem_eraseIdx h1, h2⟩
  | l, _, _, .dup k he hf t, e, h, b, hb => by
    rcases List.mem_cons.1 h with rfl | h
    · rw [hf] at hb; cases hb
    · exact t.foot e h b hb
theorem Takes.rest : ∀ {l inn r : List Ent}, Takes l inn r → ∀ e ∈ r, e ∈ l
  | _, _, _, .nil, _, h => h
  | _, _, _, .one _ _ t, e, h => List.mem_of_mem_eraseIdx (t.rest e h)
  | _, _, _, .dup _ _ _ t, e, h => t.rest e h

theorem Rel.calledG {F F' : Nat → Prop} {a : Act} {w w' : World} {inn rest : List Ent} {p : SP} {v : Value} {loc' : List Ent} (hR : Rel C F env loc a w) (ht : Takes loc inn rest) (hp : p.rel F' w' v) (hG : Good F' (loc' ++ (rest ++ C.out)) w') (hch : Ch (fun b => ∃ e' ∈ inn, b ∈ e'.foot) w w') (hgr : ∀ b, F b → b < w.heap.size → F' b)
    (hown : ∀ e' ∈ loc', ∀ b ∈ e'.foot, w.heap.size ≤ b ∨ ∃ e' ∈ inn, b ∈ e'.foot) (hd : Nat.blt d C.N = true) : Rel C F' ((d, p) :: env) (loc' ++ rest) (a.put (some d) v) w' := by
  have hblk : ∀ b, b < w.heap.size → (∀ e ∈ inn, b ∉ e.foot) → w'.heap[b]? = w.heap[b]? := fun b hb hn => hch.block b hb (by rintro ⟨e', he', h⟩; exact hn e' he' h)
  have hG0 := ht.good hR.good
  refine hR.next (by rw [List.append_assoc]; exact hG) (fun b hb hlt => ⟨hgr b hb hlt, hblk b hlt fun e he h => (hG0.lt e (List.mem_append_left _ he) b h).2 hb⟩) ?_ ?_ hd hp
  · refine ⟨hch.os.trans hR.ch.os, hch.tape.trans hR.ch.tape, hch.output.trans hR.ch.output, Nat.le_trans hR.ch.size hch.size, fun j hj hx => (hblk j (Nat.lt_of_lt_of_le hj hR.ch.size) fun e he h => ?_).trans (hR.ch.block j hj hx)⟩
    obtain ⟨e', h1, h2⟩ := ht.foot e he j h
    rcases hR.own e' h1 j h2 with h | h
    · omega
    · exact hx h
  · intro e' he' b hb
    rcases List.mem_append.1 he' with h | h
    · rcases hown e' h b hb with h | ⟨e2, h2, h3⟩
      · exact .inl (Nat.le_trans hR.ch.size h)
      · obtain ⟨e3, h4, h5⟩ := ht.foot e2 h2 b h3
        exact hR.own e3 h4 b h5
    · exact hR.own e' (ht.rest _ h) b hb

/-- A value that a slot, or a fact, pins down. -/
inductive CapOk (env : Env) : List Value → List SP → Prop
  | nil : CapOk env [] []
  | ex {v : Value} {vs : List Value} {ps : List SP} (h : CapOk env vs ps) : CapOk env (v :: vs) (ex v :: ps)
  | slot {v : Value} {p : SP} {vs : List Value} {ps : List SP} (t : Nat) (ht : look t env = some p) (hp : ∀ F w u, p.rel F w u → u = v) (h : CapOk env vs ps) : CapOk env (v :: vs) (p :: ps)
theorem CapOk.cells {F : Nat → Prop} {a : Act} {w : World} (hR : Rel C F env loc a w) : ∀ {vs : List Value} {ps : List SP}, CapOk env vs ps → CellsR F w ps vs
  | _, _, .nil => .nil
  | _, _, .ex h => .cons rfl (h.cells hR)
  | _, _, .slot t ht hp h => .cons (by have := hR.env t _ ht; rwa [hp _ _ _ this] at this) (h.cells hR)

theorem WO_callG {f : FuncId} {fn : Func} {c : Code} {xs : Array Operand} {ts : Array TypeId} {args : List SP} {inn rest : List Ent} {R : SP → List Ent → Prop} (ht : Takes loc inn rest) (hf : C.P.funcs[f]? = some fn) (hbody : fn.body = some c) (hc : FnC C.P f args inn R) (ha : xs.toList.map (ev env) = args.map some) (hk : ∀ p loc', R p loc' → K ((d, p) :: env) (loc' ++ rest)) (hname : (fn.name == "runtime.NumGoroutine") = false := by rfl) (hd : Nat.blt d C.N = true := by rfl) (hH : ∀ b, H b → ∀ e ∈ inn, b ∉ e.foot := by exact fun _ h => absurd h (by rintro ⟨_, h, _⟩; cases h)) : WO C H ⟨some d, .call ⟨.value (.func f), xs, ts⟩, ty, pos, af, g⟩ K env loc := by
  constructor
  intro F a w hR
  have hG0 := ht.good hR.good
  unfold Oper.wp
  rw [run_call hf hbody hname]
  refine (hc F w _ _ hG0 (call_cells hR ha)).mono ?_
  rintro e2 w' ⟨v, F', p, loc', rfl, hRp, hp, hG, hch, hgr, hown⟩
  refine ⟨F', _, _, hR.calledG ht hp hG hch hgr hown hd, hch.size, hgr, fun b hb hF => hch.block b hb ?_, hk p loc' hRp⟩
  rintro ⟨e', he', h⟩
  rcases hF with hF | hF
  · exact (hG0.lt _ (List.mem_append_left _ he') b h).2 hF
  · exact hH b hF e' he' h
theorem WO_callvG {f : FuncId} {fn : Func} {c : Code} {x : Operand} {vs : List Value} {caps : List SP} {xs : Array Operand} {ts : Array TypeId} {args : List SP} {inn rest : List Ent} {R : SP → List Ent → Prop} (hx : ev env x = some (ex (.func (.func f) #[] vs.toArray))) (hcap : CapOk env vs caps) (ht : Takes loc inn rest) (hf : C.P.funcs[f]? = some fn) (hbody : fn.body = some c) (hc : FnC C.P f (args ++ caps) inn R) (ha : xs.toList.map (ev env) = args.map some) (hk : ∀ p loc', R p loc' → K ((d, p) :: env) (loc' ++ rest)) (hname : (fn.name == "runtime.NumGoroutine") = false := by rfl) (hd : Nat.blt d C.N = true := by rfl) (hH : ∀ b, H b → ∀ e ∈ inn, b ∉ e.foot := by exact fun _ h => absurd h (by rintro ⟨_, h, _⟩; cases h)) : WO C H ⟨some d, .call ⟨.value x, xs, ts⟩, ty, pos, af, g⟩ K env loc := by
  constructor
  intro F a w hR
  have hG0 := ht.good hR.good
  have hcv : CellsR F w (args ++ caps) (xs.toList.map a.eval ++ vs) := (call_cells hR ha).app (hcap.cells hR)
  unfold Oper.wp
  rw [run_callv (ev_eval hR hx) hf hbody hname]
  refine (hc F w _ _ hG0 hcv).mono ?_
  rintro e2 w' ⟨v, F', p, loc', rfl, hRp, hp, hG, hch, hgr, hown⟩
  refine ⟨F', _, _, hR.calledG ht hp hG hch hgr hown hd, hch.size, hgr, fun b hb hF => hch.block b hb ?_, hk p loc' hRp⟩
  rintro ⟨e', he', h⟩
  rcases hF with hF | hF
  · exact (hG0.lt _ (List.mem_append_left _ he') b h).2 hF
  · exact hH b hF e' he' h
end
end Go.Fr

/- Frame: what a slice's length says; contracts that lean on a thing without a block; structs compared. No program in sight. -/
namespace Go.Fr
open Go.RowKit Go.Kx

/-- A contract whose text reads a thing that nobody writes. -/
theorem FnC_tab {P : Program} {f : FuncId} {args : List SP} {e0 : Ent} {R : SP → List Ent → Prop} (h : ∀ F w vals, e0.rel F w → CellsR F w args vals → Calls P f vals.toArray w (fun e w' => ∃ v p, e = .returned v ∧ R p [] ∧ p.rel (Up F w) w' v ∧ Below w.heap.size w w')) : FnC P f args [e0] R := by
  intro F w vals out hG hA
  refine (h F w vals (hG.rel e0 (by simp)) hA).mono ?_
  rintro e w' ⟨v, p, rfl, hR, hp, hb⟩
  have hG' : Good F out w := ⟨fun e he => hG.rel e (List.mem_append_right _ he), fun e he => hG.lt e (List.mem_append_right _ he), (List.pairwise_append.1 hG.disj).2.1⟩
  refine ⟨v, Up F w, p, [], rfl, hR, hp, ?_, ⟨hb.os, hb.tape, hb.output, hb.size, fun k hk _ => hb.block k hk⟩, fun b hb _ => .inl hb, fun e he => absurd he (by simp)⟩
  refine ⟨fun e he => ?_, fun e he b hb' => ?_, hG'.disj⟩
  · exact e.mono (hG'.rel e he) (fun b hF hl => ⟨.inl hF, hb.block b hl⟩) fun b hb' => hb.block b (hG'.lt e he b hb').1
  · obtain ⟨h1, h2⟩ := hG'.lt e he b hb'
    exact ⟨Nat.lt_of_lt_of_le h1 hb.size, fun h => h.elim h2 fun h => absurd h (by omega)⟩

/-- What follows from a value's being known so. -/
class Says (p : SP) (q : Prop) : Prop where
  out : ∀ {F w v}, p.rel F w v → q
theorem Says_isl {α : Type} {E : Enc α} {l : List α} : Says (isl E l) (l.length ≤ maxLen ∧ l.length * E.bytes ≤ 140737488355328) := ⟨by
  rintro F w v ⟨a, n, c, _, h⟩
  exact ⟨by have := h.length; have := h.cap; have := h.capMax; omega, by rw [h.length]; exact h.bytes⟩⟩
theorem Says_agg {ps : List SP} {i : Nat} {p : SP} {q : Prop} (hi : ps[i]? = some p) (h : Says p q) : Says (agg ps) q := ⟨by
  rintro F w v ⟨cs, _, hc⟩
  obtain ⟨u, _, hu⟩ := hc.at_ i p hi
  exact h.out hu⟩
theorem FnC_says {P : Program} {f : FuncId} {args : List SP} {inn : List Ent} {R : SP → List Ent → Prop} {i : Nat} {p : SP} {q : Prop} (hi : args[i]? = some p) (hs : Says p q) (h : q → FnC P f args inn R) : FnC P f args inn R := fun F w vals out hG hA => by
  obtain ⟨v, _, hv⟩ := hA.at_ i p hi
  exact h (hs.out hv) F w vals out hG hA
theorem WP_says {C : Cx} {c : Code} {Q : Post} {env : Env} {loc : List Ent} {t : Nat} {p : SP} {q : Prop} (ht : look t env = some p) (hs : Says p q) (h : q → WP C c Q env loc) : WP C c Q env loc := ⟨fun F a w hR => (h (hs.out (hR.env t p ht))).out F a w hR⟩
theorem WPL_says {C : Cx} {ops : Array Oper} {Q : Post} {l : List Oper} {env : Env} {loc : List Ent} {t : Nat} {p : SP} {q : Prop} (ht : look t env = some p) (hs : Says p q) (h : q → WPL C ops Q l env loc) : WPL C ops Q l env loc := ⟨fun F a w hR => (h (hs.out (hR.env t p ht))).out F a w hR⟩
theorem WP_saysr {C : Cx} {c : Code} {Q : Post} {env : Env} {loc : List Ent} {k b T tot i : Nat} {ps : List SP} {p : SP} {q : Prop} (he : loc[k]? = some (row b T tot ps)) (hi : ps[i]? = some p) (hs : Says p q) (h : q → WP C c Q env loc) : WP C c Q env loc := ⟨fun F a w hR => by
  obtain ⟨cur, _, _, h3⟩ := hR.good.rel _ (List.mem_append_left _ (List.mem_of_getElem? he))
  obtain ⟨v, _, hv⟩ := h3 i p hi
  exact (h (hs.out hv)).out F a w hR⟩

instance Scs_take {ps : List SP} {n : Nat} [h : Scs ps] : Scs (ps.take n) := ⟨fun p hp => h.out p (List.mem_of_mem_take hp)⟩
instance Scs_drop {ps : List SP} {n : Nat} [h : Scs ps] : Scs (ps.drop n) := ⟨fun p hp => h.out p (List.mem_of_mem_drop hp)⟩
/-! ### Structs compared -/
inductive EqF (P : Program) (ps qs : List SP) : List Field → Bool → Prop
  | nil : EqF P ps qs [] true
  | int {f : Field} {fs : List Field} {k' k : IntKind} {m n : Int} {r : Bool} (hn : (f.name == "_") = false) (hu : P.underlying f.type = some (.int k')) (h1 : ps[f.offset]? = some (exI k m)) (h2 : qs[f.offset]? = some (exI k n)) (h : EqF P ps qs fs r) : EqF P ps qs (f :: fs) (decide (m = n) && r)
  | str {f : Field} {fs : List Field} {m n : List UInt8} {r : Bool} (hn : (f.name == "_") = false) (hu : P.underlying f.type = some .string) (h1 : ps[f.offset]? = some (exT m)) (h2 : qs[f.offset]? = some (exT n)) (h : EqF P ps qs fs r) : EqF P ps qs (f :: fs) (decide (m = n) && r)
  | bool {f : Field} {fs : List Field} {m n : Bool} {r : Bool} (hn : (f.name == "_") = false) (hu : P.underlying f.type = some .bool) (h1 : ps[f.offset]? = some (exB m)) (h2 : qs[f.offset]? = some (exB n)) (h : EqF P ps qs fs r) : EqF P ps qs (f :: fs) (decide (m = n) && r)

theorem run_part {P : Program} {t : TypeId} {d : TypeDesc} {cs : Array Value} {off : Nat} {v : Value} {w : World} (hu : P.underlying t = some d) (hd : Desc.aggB d = false) (h : cs[off]? = some v) : (part t cs off).run P w = .ok v w := by
  have h1 : (isAgg t).run P w = .ok false w := by
    cases d <;> first | (simp [Desc.aggB] at hd; done) | simp [isAgg, run_und hu, go_sem]
  simp [part, h1, go_sem, h]
theorem ba_eq2 (p q : List UInt8) : ((⟨p.toArray⟩ : ByteArray).toList == (⟨q.toArray⟩ : ByteArray).toList) = decide (p = q) := by
  rw [ba_eq]; exact decide_eq_decide.2 ba_inj
theorem EqF.run {P : Program} {F : Nat → Prop} {w w' : World} {ps qs : List SP} {xs ys : List Value} (hx : CellsR F w ps xs) (hy : CellsR F w qs ys) {d : Nat} : ∀ {fs : List Field} {r : Bool}, EqF P ps qs fs r → (Op.eqFields (d + 1) xs.toArray ys.toArray fs).run P w' = .ok r w'
  | _, _, .nil => rfl
  | _, _, .int (f := f) (m := m) (n := n) hn hu h1 h2 h => by
    obtain ⟨_, h3, rfl⟩ := hx.at_ _ _ h1
    obtain ⟨_, h4, rfl⟩ := hy.at_ _ _ h2
    have hn' : f.name ≠ "_" := by simpa using hn
    have ih := h.run hx hy (d := d) (w' := w')
    simp only [Op.eqFields, hn', ne_eq, not_false_eq_true, if_true, Sem.run_bind, run_part (w := w') hu rfl (show xs.toArray[f.offset]? = _ by simpa using h3), run_part (w := w') hu rfl (show ys.toArray[f.offset]? = _ by simpa using h4), Result.andThen_ok, run_equalIn_int w' d _ _ _ m n hu]
    by_cases e : m = n
    · subst e; simp [ih]
    · simp [e, go_sem]
  | _, _, .str (f := f) (m := m) (n := n) hn hu h1 h2 h => by
    obtain ⟨_, h3, rfl⟩ := hx.at_ _ _ h1
    obtain ⟨_, h4, rfl⟩ := hy.at_ _ _ h2
    have hn' : f.name ≠ "_" := by simpa using hn
    have ih := h.run hx hy (d := d) (w' := w')
    simp only [Op.eqFields, hn', ne_eq, not_false_eq_true, if_true, Sem.run_bind, run_part (w := w') hu rfl (show xs.toArray[f.offset]? = _ by simpa using h3), run_part (w := w') hu rfl (show ys.toArray[f.offset]? = _ by simpa using h4), Result.andThen_ok, run_equalIn_string w' d _ _ _ hu, ba_eq2]
    by_cases e : m = n
    · subst e; simp [ih]
    · simp [e, go_sem]
  | _, _, .bool (f := f) (m := m) (n := n) hn hu h1 h2 h => by
    obtain ⟨_, h3, rfl⟩ := hx.at_ _ _ h1
    obtain ⟨_, h4, rfl⟩ := hy.at_ _ _ h2
    have hn' : f.name ≠ "_" := by simpa using hn
    have ih := h.run hx hy (d := d) (w' := w')
    simp only [Op.eqFields, hn', ne_eq, not_false_eq_true, if_true, Sem.run_bind, run_part (w := w') hu rfl (show xs.toArray[f.offset]? = _ by simpa using h3), run_part (w := w') hu rfl (show ys.toArray[f.offset]? = _ by simpa using h4), Result.andThen_ok, run_equalIn_bool' w' d _ _ _ hu]
    by_cases e : m = n
    · subst e; simp [ih]
    · simp [e, go_sem]

section
variable {C : Cx} {S : (Nat → Prop) → World → World → Prop} {env : Env} {loc : List Ent} {dst : Option Tmp} {ty : TypeId} {pos : String} {af : Array Edge} {g : Option (Nat × Bool)}
theorem WT_aeq {x y : Operand} {t u : TypeId} {ps qs : List SP} {fs : Array Field} {r : Bool} (hx : ev env x = some (agg ps)) (hy : ev env y = some (agg qs)) (ht : C.P.underlying t = some (.struct fs)) (hp : C.P.stoodInHeld t = false) (hm : C.P.eqGuardType C.P.depth t = false) (he : EqF C.P ps qs fs.toList r) : WT C S ⟨dst, .binOp .eql t x y u, ty, pos, af, g⟩ (exB r) env loc := by
  constructor
  intro F a w hR
  obtain ⟨xs, h1, h2⟩ := ev_eval hR hx
  obtain ⟨ys, h3, h4⟩ := ev_eval hR hy
  refine ⟨_, rfl, fun w' _ => ?_⟩
  have hf : C.P.fieldsOf t = fs := by simp [Program.fieldsOf, ht]
  have hr := run_equalIn_struct (P := C.P) w' 9999 t xs.toArray ys.toArray (by rw [hf]; exact ht) hp
  rw [hf, he.run h2 h4 (d := 9998)] at hr
  have hg := run_eqGuard_agg (P := C.P) w' .eql t x y xs.toArray ys.toArray hm
  have hb := run_eql_struct (P := C.P) w' t xs.toArray ys.toArray
  rw [hr] at hb
  generalize a.eval = ρ at h1 h3 ⊢
  simp only [execOp, h1, h3]
  generalize binOp .eql t (.agg xs.toArray) (.agg ys.toArray) = s at hb ⊢
  generalize eqGuard .eql t x y (.agg xs.toArray) (.agg ys.toArray) = s2 at hg ⊢
  simp [hb, hg, go_sem]
theorem WT_ane {x y : Operand} {t u : TypeId} {ps qs : List SP} {fs : Array Field} {r : Bool} (hx : ev env x = some (agg ps)) (hy : ev env y = some (agg qs)) (ht : C.P.underlying t = some (.struct fs)) (hp : C.P.stoodInHeld t = false) (hm : C.P.eqGuardType C.P.depth t = false) (he : EqF C.P ps qs fs.toList r) : WT C S ⟨dst, .binOp .neq t x y u, ty, pos, af, g⟩ (exB (!r)) env loc := by
  constructor
  intro F a w hR
  obtain ⟨xs, h1, h2⟩ := ev_eval hR hx
  obtain ⟨ys, h3, h4⟩ := ev_eval hR hy
  refine ⟨_, rfl, fun w' _ => ?_⟩
  have hf : C.P.fieldsOf t = fs := by simp [Program.fieldsOf, ht]
  have hr := run_equalIn_struct (P := C.P) w' 9999 t xs.toArray ys.toArray (by rw [hf]; exact ht) hp
  rw [hf, he.run h2 h4 (d := 9998)] at hr
  have hg := run_eqGuard_agg (P := C.P) w' .neq t x y xs.toArray ys.toArray hm
  have hb := run_neq_struct (P := C.P) w' t xs.toArray ys.toArray
  rw [hr] at hb
  generalize a.eval = ρ at h1 h3 ⊢
  simp only [execOp, h1, h3]
  generalize binOp .neq t (.agg xs.toArray) (.agg ys.toArray) = s at hb ⊢
  generalize eqGuard .neq t x y (.agg xs.toArray) (.agg ys.toArray) = s2 at hg ⊢
  simp [hb, hg, go_sem]
end

/-- Structs of type t that lie in cells as V says are compared as their data. -/
class EqD (P : Program) (t : TypeId) {α : outParam Type} [DecidableEq α] (V : outParam (α → List SP)) : Prop where
  out : ∃ fs, P.underlying t = some (.struct fs) ∧ P.stoodInHeld t = false ∧ P.eqGuardType P.depth t = false ∧ ∀ a b, ∃ r, EqF P (V a) (V b) fs.toList r ∧ r = decide (a = b)
theorem WT_aeqD {α : Type} [DecidableEq α] {V : α → List SP} {C : Cx} {S : (Nat → Prop) → World → World → Prop} {env : Env} {loc : List Ent} {dst : Option Tmp} {ty : TypeId} {pos : String} {af : Array Edge} {g : Option (Nat × Bool)} {x y : Operand} {t u : TypeId} {a b : α} (h : EqD C.P t V) (hx : ev env x = some (agg (V a))) (hy : ev env y = some (agg (V b))) : WT C S ⟨dst, .binOp .eql t x y u, ty, pos, af, g⟩ (exB (decide (a = b))) env loc := by
  obtain ⟨fs, h1, h2, h3, h4⟩ := h.out
  obtain ⟨r, h5, rfl⟩ := h4 a b
  exact WT_aeq hx hy h1 h2 h3 h5
theorem WT_aneD {α : Type} [DecidableEq α] {V : α → List SP} {C : Cx} {S : (Nat → Prop) → World → World → Prop} {env : Env} {loc : List Ent} {dst : Option Tmp} {ty : TypeId} {pos : String} {af : Array Edge} {g : Option (Nat × Bool)} {x y : Operand} {t u : TypeId} {a b : α} (h : EqD C.P t V) (hx : ev env x = some (agg (V a))) (hy : ev env y = some (agg (V b))) : WT C S ⟨dst, .binOp .neq t x y u, ty, pos, af, g⟩ (exB (!decide (a = b))) env loc := by
  obtain ⟨fs, h1, h2, h3, h4⟩ := h.out
  obtain ⟨r, h5, rfl⟩ := h4 a b
  exact WT_ane hx hy h1 h2 h3 h5

/-- The library's table of white space. -/
def tabE (g : Nat) : Ent where
  foot := []
  rel F w := F g ∧ g < w.heap.size ∧ ∀ c : Nat, c < 256 → w.cell? ⟨g, c, none⟩ = some (.int .u8 (if Lib.isSp (UInt8.ofNat c) then 1 else 0))
  mono := by
    rintro S S' w w' ⟨h1, h2, h3⟩ hk _
    obtain ⟨hb, hw⟩ := hk g h1 h2
    refine ⟨hb, ?_, fun c hc => (World.cell?_of_block (w := w) hw).trans (h3 c hc)⟩
    have : w.heap[g]? ≠ none := by rw [Array.getElem?_eq_getElem h2]; simp
    rw [← hw] at this
    exact Nat.lt_of_not_le fun h => this (Array.getElem?_eq_none h)
end Go.Fr

/- Readings of bounded depth; the row of a law that answers true and turns nothing, where a table of the library is laid. No program in sight. -/
namespace Go.Kx
open Go.RowKit Go.ChangeShapes Go.WideShapes Go.ChangeAt

/-- Data of type t, read by fuel at most K, reads by E. -/
def ReadsK (P : Program) {α : Type} (t : TypeId) (K : Nat) (E : Enc α) : Prop :=
  ∀ (H : Type) (enc : TypeId × Value → H) (w : World) (fuel : Nat) (cs : List Value) (x : DataW H × List MemPlace), fuel ≤ K →
    DataW.trod enc P w 0 (fun _ => true) true fuel t cs = some x → (∀ n ∈ x.1.weights P t, n ≤ reachBytes) → ∃ a, E.rel (fun _ => True) w cs a
theorem Reads.at {P : Program} {α : Type} {t : TypeId} {E : Enc α} (h : Reads P t E) (K : Nat) : ReadsK P t K E := fun H enc w fuel cs x _ => h H enc w fuel cs x
theorem ReadsK.zero {P : Program} {α : Type} {t : TypeId} {E : Enc α} : ReadsK P t 0 E := fun H enc w fuel cs x hK h _ => by
  obtain rfl : fuel = 0 := by omega
  simp [DataW.trod] at h

/-- A slice reads, where its elements do. -/
theorem readsK_slice {K : Nat} {P : Program} {α : Type} {t e : TypeId} {E : Enc α} (ht : P.underlying t = some (.slice e)) (hsz : P.cellsOf e = E.size) (h0 : 0 < E.size) (hby : P.bytesOf e = E.bytes) (hE : ReadsK P e K E) : ReadsK P t K (eSl E) := by
  intro H enc w fuel cs x hK h hw
  rcases DataW.trod_slice ht h with ⟨rfl, rfl⟩ | ⟨a, len, cap, elems, rest, n, hfu, rfl, rfl, _, hl, hm, hlen, hel, hsp, _⟩
  · exact ⟨[], none, 0, 0, rfl, Sl.zero _ _ _⟩
  · have hwt : ∀ k, k ∈ ((elems.map (·.1)).length + (rest.map (·.1)).length) * P.bytesOf e :: (DataW.weightsAll P e (elems.map (·.1)) ++ DataW.weightsAll P e (rest.map (·.1))) → k ≤ reachBytes := by
      intro k hk
      apply hw
      simpa [DataW.weights, ht] using hk
    have hall : ∀ i, i < len → ∃ y, ∃ b off cs', some a = some (⟨b, off, none⟩ : Addr) ∧ b < w.heap.size ∧ cs'.length = E.size ∧ (∀ j, j < E.size → w.cell? ⟨b, off + i * E.size + j, none⟩ = cs'[j]?) ∧ E.rel (fun _ => True) w cs' y := by
      intro i hi
      have hk := hel i hi
      rw [List.getElem?_eq_getElem (by omega)] at hk
      obtain ⟨cs', h1, h2⟩ := Option.bind_eq_some_iff.1 hk
      obtain ⟨y, hy⟩ := hE H enc w n cs' _ (by omega) h2 (fun k hkk => hwt k (List.mem_cons_of_mem _ (List.mem_append.2 (Or.inl (weightsAll_of_mem (List.mem_map_of_mem (List.getElem_mem (l := elems) (n := i) (by omega))) k hkk)))))
      obtain ⟨_, hlen', hcells⟩ := World.cells?_some h1
      rw [hsz] at hcells hlen'
      have hc0 := hcells 0 h0
      obtain ⟨v, hv⟩ : ∃ v, cs'[0]? = some v := ⟨_, List.getElem?_eq_getElem (by omega)⟩
      rw [hv] at hc0
      obtain ⟨hb, hs⟩ := cell_lt hc0
      have hspot : a.spot = none ∨ i ≠ 0 := by
        by_cases hi0 : i = 0
        · subst hi0; left; simpa [Addr.add] using hs
        · exact Or.inr hi0
      have hblk : a.block < w.heap.size := by
        have e : ((a.add (i * E.size)).add 0).block = a.block := by unfold Addr.add; split <;> split <;> rfl
        rwa [e] at hb
      have hns : a.spot = none := by
        rcases hspot with h | h
        · exact h
        · have hk0 := hel 0 (by omega)
          rw [List.getElem?_eq_getElem (by omega)] at hk0
          obtain ⟨cs0, h10, _⟩ := Option.bind_eq_some_iff.1 hk0
          obtain ⟨_, hlen0, hcells0⟩ := World.cells?_some h10
          rw [hsz] at hcells0 hlen0
          have hc00 := hcells0 0 h0
          rw [List.getElem?_eq_getElem (by omega)] at hc00
          simpa [Addr.add] using (cell_lt hc00).2
      obtain ⟨ab, ao, asp⟩ := a
      simp only at hns hblk
      subst hns
      refine ⟨y, ab, ao, cs', rfl, hblk, hlen', fun j hj => ?_, hy⟩
      rw [← hcells j hj]
      congr 1
      unfold Addr.add
      by_cases h1 : i * E.size = 0 <;> by_cases h2 : j = 0 <;> simp [h1, h2]
    obtain ⟨l, hll, hl2⟩ := list_of_all hall
    refine ⟨l, some a, len, cap, rfl, Sl.mk hll hl hm ?_ (fun h => absurd h (by simp)) fun i hi => ?_⟩
    · have := hwt _ List.mem_cons_self
      rw [hby] at this
      simp only [List.length_map, hlen, reachBytes] at this
      have h2 : len * E.bytes ≤ (len + rest.length) * E.bytes := Nat.mul_le_mul_right _ (by omega)
      omega
    · obtain ⟨b, off, cs', h1, h2, h3, h4, h5⟩ := hl2 i hi
      exact ⟨b, off, cs', h1, trivial, h2, h3, h4, h5⟩

/-- One field of a struct. -/
theorem readsK_field {K : Nat} {P : Program} {t : TypeId} {fs : Array Field} (ht : P.underlying t = some (.struct fs)) {H : Type} {enc : TypeId × Value → H} {w : World} {fuel : Nat} {cs : List Value} {x : DataW H × List MemPlace}
    (h : DataW.trod enc P w 0 (fun _ => true) true fuel t cs = some x) (hw : ∀ n ∈ x.1.weights P t, n ≤ reachBytes) (hK : fuel ≤ K) (i : Nat) (f : Field) (hf : fs[i]? = some f) {α : Type} {E : Enc α} (hE : ReadsK P f.type K E) :
    cs.length = P.cellsOf t ∧ ∃ a, E.rel (fun _ => True) w ((cs.drop f.offset).take (P.cellsOf f.type)) a := by
  obtain ⟨xs, n, hfu, rfl, hl, hlen, hfs⟩ := DataW.trod_struct ht h
  have hi : i < fs.size := by
    rcases Nat.lt_or_ge i fs.size with h | h
    · exact h
    · rw [Array.getElem?_eq_none h] at hf; cases hf
  have hk := hfs i f hf
  rw [List.getElem?_eq_getElem (by omega)] at hk
  refine ⟨hl, hE H enc w n _ _ (by omega) hk fun k hkk => hw k ?_⟩
  simp only [DataW.weights, ht]
  exact DataW.weights_mem_each (j := i) (t := f.type) (d := xs[i].1) (by rw [List.getElem?_map, Array.getElem?_toList, hf]; rfl) (by rw [List.getElem?_map, List.getElem?_eq_getElem (by omega)]; rfl) k hkk


theorem reads_text {P : Program} {t : TypeId} (ht : P.underlying t = some .string) : Reads P t Fr.eStr := by
  intro H enc w fuel cs x h _
  obtain ⟨s, rfl, _⟩ := DataW.trod_string ht h
  exact ⟨s.data.toList, rfl⟩
theorem reads_i {P : Program} {t : TypeId} (ht : P.underlying t = some (.int .i64)) : Reads P t Fr.eI := by
  intro H enc w fuel cs x h _
  obtain ⟨n, rfl, _, _⟩ := DataW.trod_int ht h
  exact ⟨n, rfl⟩
end Go.Kx
namespace Go.Fr
open Go.RowKit Go.Kx Go.ChangeShapes Go.WideShapes Go.ChangeAt

theorem CellsR.parts {F : Nat → Prop} {w : World} {ps qs : List SP} {cs : List Value} {off sz : Nat} (h1 : CellsR F w ps ((cs.drop off).take sz)) (h2 : CellsR F w qs (cs.drop (off + sz))) (hl : ps.length = sz) : CellsR F w (ps ++ qs) (cs.drop off) := by
  have hlen : ((cs.drop off).take sz).length = sz := by rw [h1.len, hl]
  have e : cs.drop off = (cs.drop off).take sz ++ cs.drop (off + sz) := by rw [← List.drop_drop, List.take_append_drop]
  refine ⟨by rw [e, List.length_append, List.length_append, h1.len, h2.len], fun i p hp => ?_⟩
  rw [e]
  by_cases hi : i < sz
  · rw [List.getElem?_append_left (by omega)] at hp
    rw [List.getElem?_append_left (by omega)]
    exact h1.at_ i p hp
  · rw [List.getElem?_append_right (by omega)] at hp
    rw [List.getElem?_append_right (by omega), hlen]
    exact h2.at_ _ p (by rw [hl] at hp; exact hp)
theorem CellsR.parts0 {F : Nat → Prop} {w : World} {cs : List Value} {n : Nat} (h : cs.length = n) : CellsR F w [] (cs.drop n) := by
  rw [List.drop_of_length_le (by omega)]
  exact ⟨rfl, fun i p hp => by simp at hp⟩
theorem CellsR.one' {F : Nat → Prop} {w : World} {p : SP} {v : Value} (h : p.rel F w v) : CellsR F w [p] [v] := .cons h .nil
/-- One field, as cells. -/
theorem readsK_part {K : Nat} {P : Program} {t : TypeId} {fs : Array Field} (ht : P.underlying t = some (.struct fs)) {H : Type} {enc : TypeId × Value → H} {w : World} {fuel : Nat} {cs : List Value} {x : DataW H × List MemPlace}
    (h : DataW.trod enc P w 0 (fun _ => true) true fuel t cs = some x) (hw : ∀ n ∈ x.1.weights P t, n ≤ reachBytes) (hK : fuel ≤ K + 1) (i : Nat) (f : Field) (hf : fs[i]? = some f) {α : Type} {E : Enc α} {gs : α → List SP} (hF : Fits E gs) (hE : ReadsK P f.type K E) (off sz : Nat) (hoff : f.offset = off) (hsz : P.cellsOf f.type = sz) :
    ∃ a, CellsR (fun _ => True) w (gs a) ((cs.drop off).take sz) := by
  obtain ⟨xs, n, hfu, rfl, hl, hlen, hfs⟩ := DataW.trod_struct ht h
  have hi : i < fs.size := by
    rcases Nat.lt_or_ge i fs.size with h | h
    · exact h
    · rw [Array.getElem?_eq_none h] at hf; cases hf
  have hk := hfs i f hf
  rw [List.getElem?_eq_getElem (by omega)] at hk
  obtain ⟨a, ha⟩ := hE H enc w n _ _ (by omega) hk fun k hkk => hw k (by
    simp only [DataW.weights, ht]
    exact DataW.weights_mem_each (j := i) (t := f.type) (d := xs[i].1) (by rw [List.getElem?_map, Array.getElem?_toList, hf]; rfl) (by rw [List.getElem?_map, List.getElem?_eq_getElem (by omega)]; rfl) k hkk)
  subst hoff hsz
  exact ⟨a, hF.out ha⟩
theorem trod_len {P : Program} {t : TypeId} {fs : Array Field} (ht : P.underlying t = some (.struct fs)) {H : Type} {enc : TypeId × Value → H} {w : World} {fuel : Nat} {cs : List Value} {x : DataW H × List MemPlace}
    (h : DataW.trod enc P w 0 (fun _ => true) true fuel t cs = some x) {n : Nat} (hn : P.cellsOf t = n) : cs.length = n := by
  obtain ⟨_, _, _, _, hl, _⟩ := DataW.trod_struct ht h
  rw [hl, hn]
theorem fits_isl {α : Type} {E : Enc α} : Fits (eSl E) (fun l => [isl E l]) where
  out h := by
    obtain ⟨a, n, c, rfl, h⟩ := h
    exact .cons ⟨a, n, c, rfl, h⟩ .nil
  inn {F w cs a} h := by
    obtain ⟨v, h1, h2⟩ := h.at_ 0 _ rfl
    have hl : cs.length = 1 := h.len
    obtain ⟨u, rfl⟩ := List.length_eq_one_iff.1 hl
    cases h1
    obtain ⟨b, n, c, rfl, h3⟩ := h2
    exact ⟨b, n, c, rfl, h3⟩
theorem fits_bool' : Fits eBool (fun b => [exB b]) where
  out h := by simp only [eBool] at h; subst h; exact .cons rfl .nil
  inn {F w cs a} h := by
    obtain ⟨v, h1, h2⟩ := h.at_ 0 _ rfl
    have hl : cs.length = 1 := h.len
    obtain ⟨u, rfl⟩ := List.length_eq_one_iff.1 hl
    cases h1
    have h3 : v = .bool a := h2
    rw [h3]; rfl

/-- An argument that is a struct. -/
theorem ArgIn.agg {P : Program} {W : World} {t : TypeId} {fs : Array Field} {v : Value} {α : Type} {E : Nat → Enc α} {gs : Nat → α → List SP} (h : ArgIn P W t v) (ht : P.underlying t = some (.struct fs)) (hE : ∀ K, ReadsK P t K (E K)) (hF : ∀ K, Fits (E K) (gs K)) : ∃ K a, (Fr.agg (gs K a)).rel (fun _ => True) W v := by
  obtain ⟨base, H, enc, d, p, hok, ⟨fuel, hf⟩, hw⟩ := h
  obtain ⟨cs, rfl, _⟩ := okWide_struct ht hok
  obtain ⟨a, ha⟩ := hE fuel H enc W fuel _ _ (Nat.le_refl _) hf hw
  exact ⟨fuel, a, cs.toList, by simp, (hF fuel).out ha⟩
theorem ArgIn.int_ {P : Program} {W : World} {t : TypeId} {v : Value} {k : IntKind} (h : ArgIn P W t v) (ht : P.underlying t = some (.int k)) : ∃ n : Int, (exI k n).rel (fun _ => True) W v ∧ k.min ≤ n ∧ n ≤ k.max := by
  obtain ⟨n, rfl, h1, h2⟩ := ArgIn.int h ht
  exact ⟨n, rfl, h1, h2⟩
theorem ArgIn.text {P : Program} {W : World} {t : TypeId} {v : Value} (h : ArgIn P W t v) (ht : P.underlying t = some .string) : ∃ l : List UInt8, (exT l).rel (fun _ => True) W v ∧ l.length ≤ maxLen := by
  obtain ⟨base, H, enc, d, p, hok, ⟨fuel, hf⟩, hw⟩ := h
  obtain ⟨s, rfl⟩ := okWide_string ht hok
  obtain ⟨s', hs, _, hl⟩ := DataW.trod_string ht hf
  simp only [Value.cells, List.cons.injEq, and_true, Value.string.injEq] at hs
  subst hs
  exact ⟨s.data.toList, rfl, by rw [Array.length_toList]; exact hl⟩
theorem ArgIn.sl {P : Program} {W : World} {t e : TypeId} {v : Value} {α : Type} {E : Nat → Enc α} (h : ArgIn P W t v) (ht : P.underlying t = some (.slice e)) (hE : ∀ K, ReadsK P t K (eSl (E K))) : ∃ K l, (isl (E K) l).rel (fun _ => True) W v := by
  obtain ⟨base, H, enc, d, p, hok, ⟨fuel, hf⟩, hw⟩ := h
  obtain ⟨a, n, c, rfl⟩ := okWide_slice ht hok
  obtain ⟨l, a', n', c', hc, hs⟩ := hE fuel H enc W fuel _ _ (Nat.le_refl _) hf hw
  simp only [Value.cells, List.cons.injEq, Value.slice.injEq, and_true] at hc
  obtain ⟨rfl, rfl, rfl⟩ := hc
  exact ⟨fuel, l, a, n, c, rfl, hs⟩

/-- A law's contract that leans on the table, without the frame. -/
theorem lawT_of {P : Program} {f : FuncId} {args : List SP} {g : Nat} (h : FnC P f args [tabE g] (fun p loc => p = exB true ∧ loc = [])) {w : World} {vals : List Value} (ht : (tabE g).rel (fun _ => True) w) (hA : CellsR (fun _ => True) w args vals) : Calls P f vals.toArray w fun e w' => e = .returned (.bool true) ∧ Below w.heap.size w w' := by
  refine (h (fun _ => True) w vals [] ⟨fun e he => (by simp at he; subst he; exact ht), fun e he => (by simp at he; subst he; intro b hb; cases hb), (by simp)⟩ hA).mono ?_
  rintro e w' ⟨v, F', p, loc', rfl, ⟨rfl, rfl⟩, hp, _, hch, _, _⟩
  have hv : v = .bool true := hp
  subst hv
  exact ⟨rfl, hch.os, hch.tape, hch.output, hch.size, fun k hk => hch.block k hk fun ⟨e, he, hb⟩ => (by simp at he; subst he; cases hb)⟩

/-- There is an input that fits, at a world that is written out, where variables lead to other memory. -/
theorem witness_ref {C : Checked} {os : Os} {f : FuncId} {fn : Func} {s : OpenSpec} {laid : List (String × DataW Unit)} {H : Type} {enc : TypeId × Value → H} (w0 : World) (args : Array Value) (hos : w0.os = os)
    (hv : (w0.forCall (fun _ _ => 0) ⟨#[], args, []⟩).variablesRefB C.prog = true)
    (hr : ((w0.forCall (fun _ _ => 0) ⟨#[], args, []⟩).heap.toList.drop C.prog.globals.size).take ((begin C.prog (fun _ _ => 0) default).world.heap.size - C.prog.globals.size) =
      (begin C.prog (fun _ _ => 0) default).world.heap.toList.drop C.prog.globals.size)
    (hok : Input.okWideB C.prog (w0.forCall (fun _ _ => 0) ⟨#[], args, []⟩) f ⟨#[], args, []⟩ = true)
    (hrow : s.preRow enc C.prog fn [] false laid (w0.forCall (fun _ _ => 0) ⟨#[], args, []⟩).memory args) :
    ∃ (w : World) (tape : Tape) (i : Input), w.os = os ∧ (w.forCall tape i).Shaped C.prog ∧ i.vars = [] ∧ Input.okWide C.prog (w.forCall tape i) .any w.heap.size f i ∧
      s.preRow enc C.prog fn [] false laid (w.forCall tape i).memory i.args ∧ ({} : Assume).holds C.prog (lone (Frame.enter C.prog f i.args .normal) [] (w.forCall tape i)) :=
  ⟨w0, fun _ _ => 0, ⟨#[], args, []⟩, hos, World.shaped_of_RefB hv hr, (Input.okWide_of_okWideB (base := 0) hok).1, (Input.okWide_of_okWideB hok).2, hrow, by
    simp only [Assume.holds]
    exact ⟨by simp, by simp, fun h => (by cases h), by simp, by simp⟩⟩

/-- A LAW over laid variables: it answers true, and all that was there is as it was. -/
theorem law_tied {C : Checked} {os : Os} {f : FuncId} {fn : Func} {s : ChangeSpec} {F : Stop.Interp} {laid : List (String × DataW Unit)} {tb : TypeId} {H : Type} {enc : TypeId × Value → H}
    (own : ownKnob C.prog.godebug = none) (hl : laidOutB C.prog = true) (started : os.Started) (noInit : C.prog.inits.idxOf? f = none) (hfn : C.prog.funcs[f]? = some fn)
    (hres : fn.resultTypes = #[tb]) (htb : C.prog.underlying tb = some .bool) (hvars : s.vars = [])
    (hread : fn.params.toList.all (fun t => C.prog.readableRec t && decide (t < C.prog.types.size)) = true)
    (hs : ∀ ds : List (DataW H), ds.length = fn.params.size → s.fn H (ds ++ []) = { results := [.lit (.bool true)], args := ds })
    (witness : ∃ (w : World) (tape : Tape) (i : Input), w.os = os ∧ (w.forCall tape i).Shaped C.prog ∧ i.vars = [] ∧ Input.okWide C.prog (w.forCall tape i) .any w.heap.size f i ∧
      (OpenSpec.ofChange s).preRow enc C.prog fn [] false laid (w.forCall tape i).memory i.args ∧ ({} : Assume).holds C.prog (lone (Frame.enter C.prog f i.args .normal) [] (w.forCall tape i)))
    (walk : ∀ (W : World) (args : Array Value), ArgsIn C.prog W fn.params.toList args.toList → laidMetH C.prog laid W → Calls C.prog f args W fun e W' => e = .returned (.bool true) ∧ Below W.heap.size W W') :
    ReturnsInHanded {} C os f .any ((OpenSpec.ofChange s).preRow enc C.prog fn [] false laid) (((OpenSpec.ofChange s).at F).post enc C.prog fn false true false false) := by
  refine returnsInHanded_of_row (s := OpenSpec.ofChange s) own started noInit hfn witness ?_
  intro W base args ds gs before hval hW _ _ hsz hL _ _
  have hlt := hW.lt
  have hW' := hW
  obtain ⟨p, q, hA, hV, rfl, _, _⟩ := hW
  have hvars' : (OpenSpec.ofChange s).vars = [] := hvars
  rw [hvars'] at hV
  obtain ⟨rfl, rfl⟩ := trodVars_none hV
  have hvt : (OpenSpec.ofChange s).bare.plain.varTypes C.prog = [] := by simp [DataSpec.varTypes, ChangeSpec.plain, OpenSpec.bare, hvars']
  rw [hvt, List.append_nil, List.append_nil] at hsz
  have hlen : ∀ {ts : List TypeId} {vs : List Value} {es : List (DataW H)} {ps : List MemPlace}, DataW.TrodAll enc C.prog W 0 (fun _ => true) true ts vs es ps → es.length = ts.length := by
    intro ts
    induction ts with
    | nil => intro vs es ps h; match vs, es, h with | [], [], _ => rfl
    | cons t ts ih => intro vs es ps h; match vs, es, h with | v :: vs, d :: es, ⟨_, _, _, h2, _⟩ => simp [ih h2]
  have hd := hs ds ((hlen hA).trans (by simp))
  refine (walk W args ⟨base, H, enc, ds, p, fun j t v h1 h2 => hval j t v (by simpa using h1) (by simpa using h2), hA, fun n hn => by simpa using List.all_eq_true.1 hsz n hn⟩ hL).mono ?_
  rintro e W' ⟨rfl, hb⟩
  have hsv : ((OpenSpec.ofChange s).at F).vars = [] := hvars
  have hsf : ((OpenSpec.ofChange s).at F).fn H (ds ++ []) = { results := [.lit (.bool true)], args := ds } := hd
  refine ⟨_, rfl, ds, [], p ++ [], [], p, [], hW', ?_, ?_, ?_, hb.frame _, fun h => by cases h⟩
  · rw [hsf, hres]
    exact trodAll_mk1 (shut_bool htb true)
  · rw [hsf]
    exact trodAll_below hl hb (fun t ht => by simpa using List.all_eq_true.1 hread t ht) hA fun x hx => hlt x (List.mem_append.2 (Or.inl hx))
  · rw [hsf, hsv]; rfl
end Go.Fr

/- What is known of the types: printed by a program from the translation's table of types. -/
namespace Go.Proofs.YtdpabdbeecbnmaaDoor
open Go Go.Fr
set_option maxRecDepth 100000 in
instance ti2 : TI Tryd.prog 2 1 8 (.int .i64 0) := ⟨_, rfl, rfl, rfl, rfl⟩
set_option maxRecDepth 100000 in
instance ti3 : TI Tryd.prog 3 1 8 (.int .i64 0) := ⟨_, rfl, rfl, rfl, rfl⟩
set_option maxRecDepth 100000 in
instance ti4 : TI Tryd.prog 4 1 1 (.bool false) := ⟨_, rfl, rfl, rfl, rfl⟩
set_option maxRecDepth 100000 in
instance ti5 : TI Tryd.prog 5 1 1 (.int .u8 0) := ⟨_, rfl, rfl, rfl, rfl⟩
set_option maxRecDepth 100000 in
instance ti9 : TI Tryd.prog 9 1 16 (.string .empty) := ⟨_, rfl, rfl, rfl, rfl⟩
set_option maxRecDepth 100000 in
instance ti12 : TI Tryd.prog 12 1 8 (.int .u64 0) := ⟨_, rfl, rfl, rfl, rfl⟩
set_option maxRecDepth 100000 in
instance ti17 : TI Tryd.prog 17 1 8 (.pointer none) := ⟨_, rfl, rfl, rfl, rfl⟩
set_option maxRecDepth 100000 in
instance ti20 : TI Tryd.prog 20 1 16 (.nilIface) := ⟨_, rfl, rfl, rfl, rfl⟩
set_option maxRecDepth 100000 in
instance ti21 : TI Tryd.prog 21 1 4 (.int .i32 0) := ⟨_, rfl, rfl, rfl, rfl⟩
set_option maxRecDepth 100000 in
instance ti23 : TI Tryd.prog 23 1 24 (.slice none 0 0) := ⟨_, rfl, rfl, rfl, rfl⟩
set_option maxRecDepth 100000 in
instance ti24 : TI Tryd.prog 24 1 8 (.int .i64 0) := ⟨_, rfl, rfl, rfl, rfl⟩
set_option maxRecDepth 100000 in
instance ti34 : TI Tryd.prog 34 4 40 (.agg #[(.int .i64 0), (.string .empty), (.int .i64 0), (.int .i64 0)]) := ⟨_, rfl, rfl, rfl, rfl⟩
set_option maxRecDepth 100000 in
instance ti35 : TI Tryd.prog 35 4 40 (.agg #[(.int .i64 0), (.string .empty), (.int .i64 0), (.int .i64 0)]) := ⟨_, rfl, rfl, rfl, rfl⟩
set_option maxRecDepth 100000 in
instance ti38 : TI Tryd.prog 38 1 24 (.slice none 0 0) := ⟨_, rfl, rfl, rfl, rfl⟩
set_option maxRecDepth 100000 in
instance ti39 : TI Tryd.prog 39 1 24 (.slice none 0 0) := ⟨_, rfl, rfl, rfl, rfl⟩
set_option maxRecDepth 100000 in
instance ti42 : TI Tryd.prog 42 1 8 (.int .i64 0) := ⟨_, rfl, rfl, rfl, rfl⟩
set_option maxRecDepth 100000 in
instance ti44 : TI Tryd.prog 44 6 48 (.agg #[.nilFunc, .nilFunc, .nilFunc, .nilFunc, .nilFunc, .nilFunc]) := ⟨_, rfl, rfl, rfl, rfl⟩
set_option maxRecDepth 100000 in
instance ti45 : TI Tryd.prog 45 6 48 (.agg #[.nilFunc, .nilFunc, .nilFunc, .nilFunc, .nilFunc, .nilFunc]) := ⟨_, rfl, rfl, rfl, rfl⟩
set_option maxRecDepth 100000 in
instance ti46 : TI Tryd.prog 46 6 48 (.agg #[.nilFunc, .nilFunc, .nilFunc, .nilFunc, .nilFunc, .nilFunc]) := ⟨_, rfl, rfl, rfl, rfl⟩
set_option maxRecDepth 100000 in
instance ti47 : TI Tryd.prog 47 1 8 (.pointer none) := ⟨_, rfl, rfl, rfl, rfl⟩
set_option maxRecDepth 100000 in
instance ti48 : TI Tryd.prog 48 3 48 (.agg #[(.string .empty), (.int .i64 0), (.slice none 0 0)]) := ⟨_, rfl, rfl, rfl, rfl⟩
set_option maxRecDepth 100000 in
instance ti49 : TI Tryd.prog 49 3 48 (.agg #[(.string .empty), (.int .i64 0), (.slice none 0 0)]) := ⟨_, rfl, rfl, rfl, rfl⟩
set_option maxRecDepth 100000 in
instance ti60 : TI Tryd.prog 60 1 16 (.nilIface) := ⟨_, rfl, rfl, rfl, rfl⟩
set_option maxRecDepth 100000 in
instance ti61 : TI Tryd.prog 61 1 16 (.nilIface) := ⟨_, rfl, rfl, rfl, rfl⟩
set_option maxRecDepth 100000 in
instance ti65 : TI Tryd.prog 65 1 8 (.pointer none) := ⟨_, rfl, rfl, rfl, rfl⟩
set_option maxRecDepth 100000 in
instance ti66 : TI Tryd.prog 66 2 32 (.agg #[(.pointer none), (.slice none 0 0)]) := ⟨_, rfl, rfl, rfl, rfl⟩
set_option maxRecDepth 100000 in
instance ti67 : TI Tryd.prog 67 2 32 (.agg #[(.pointer none), (.slice none 0 0)]) := ⟨_, rfl, rfl, rfl, rfl⟩
set_option maxRecDepth 100000 in
instance ti70 : TI Tryd.prog 70 1 24 (.slice none 0 0) := ⟨_, rfl, rfl, rfl, rfl⟩
set_option maxRecDepth 100000 in
instance ti74 : TI Tryd.prog 74 1 8 (.pointer none) := ⟨_, rfl, rfl, rfl, rfl⟩
set_option maxRecDepth 100000 in
instance ti79 : TI Tryd.prog 79 1 8 (.pointer none) := ⟨_, rfl, rfl, rfl, rfl⟩
set_option maxRecDepth 100000 in
instance ti82 : TI Tryd.prog 82 24 24 (.agg #[(.int .u8 0), (.int .u8 0), (.int .u8 0), (.int .u8 0), (.int .u8 0), (.int .u8 0), (.int .u8 0), (.int .u8 0), (.int .u8 0), (.int .u8 0), (.int .u8 0), (.int .u8 0), (.int .u8 0), (.int .u8 0), (.int .u8 0), (.int .u8 0), (.int .u8 0), (.int .u8 0), (.int .u8 0), (.int .u8 0), (.int .u8 0), (.int .u8 0), (.int .u8 0), (.int .u8 0)]) := ⟨_, rfl, rfl, rfl, rfl⟩
set_option maxRecDepth 100000 in
instance ti83 : TI Tryd.prog 83 1 8 (.int .u64 0) := ⟨_, rfl, rfl, rfl, rfl⟩
set_option maxRecDepth 100000 in
instance ti93 : TI Tryd.prog 93 1 8 (.int .u64 0) := ⟨_, rfl, rfl, rfl, rfl⟩
set_option maxRecDepth 100000 in
instance ti95 : TI Tryd.prog 95 3 48 (.agg #[(.string .empty), (.string .empty), .nilIface]) := ⟨_, rfl, rfl, rfl, rfl⟩
set_option maxRecDepth 100000 in
instance ti96 : TI Tryd.prog 96 3 48 (.agg #[(.string .empty), (.string .empty), .nilIface]) := ⟨_, rfl, rfl, rfl, rfl⟩
set_option maxRecDepth 100000 in
instance ti100 : TI Tryd.prog 100 20 160 (.agg #[(.int .u64 0), (.int .u64 0), (.int .u64 0), (.int .u64 0), (.int .u64 0), (.int .u64 0), (.int .u64 0), (.int .u64 0), (.int .u64 0), (.int .u64 0), (.int .u64 0), (.int .u64 0), (.int .u64 0), (.int .u64 0), (.int .u64 0), (.int .u64 0), (.int .u64 0), (.int .u64 0), (.int .u64 0), (.int .u64 0)]) := ⟨_, rfl, rfl, rfl, rfl⟩
set_option maxRecDepth 100000 in
instance ti101 : TI Tryd.prog 101 1 4 (.int .u32 0) := ⟨_, rfl, rfl, rfl, rfl⟩
set_option maxRecDepth 100000 in
instance ti102 : TI Tryd.prog 102 65 65 (.agg #[(.int .u8 0), (.int .u8 0), (.int .u8 0), (.int .u8 0), (.int .u8 0), (.int .u8 0), (.int .u8 0), (.int .u8 0), (.int .u8 0), (.int .u8 0), (.int .u8 0), (.int .u8 0), (.int .u8 0), (.int .u8 0), (.int .u8 0), (.int .u8 0), (.int .u8 0), (.int .u8 0), (.int .u8 0), (.int .u8 0), (.int .u8 0), (.int .u8 0), (.int .u8 0), (.int .u8 0), (.int .u8 0), (.int .u8 0), (.int .u8 0), (.int .u8 0), (.int .u8 0), (.int .u8 0), (.int .u8 0), (.int .u8 0), (.int .u8 0), (.int .u8 0), (.int .u8 0), (.int .u8 0), (.int .u8 0), (.int .u8 0), (.int .u8 0), (.int .u8 0), (.int .u8 0), (.int .u8 0), (.int .u8 0), (.int .u8 0), (.int .u8 0), (.int .u8 0), (.int .u8 0), (.int .u8 0), (.int .u8 0), (.int .u8 0), (.int .u8 0), (.int .u8 0), (.int .u8 0), (.int .u8 0), (.int .u8 0), (.int .u8 0), (.int .u8 0), (.int .u8 0), (.int .u8 0), (.int .u8 0), (.int .u8 0), (.int .u8 0), (.int .u8 0), (.int .u8 0), (.int .u8 0)]) := ⟨_, rfl, rfl, rfl, rfl⟩
set_option maxRecDepth 100000 in
instance ti106 : TI Tryd.prog 106 1 8 (.pointer none) := ⟨_, rfl, rfl, rfl, rfl⟩
set_option maxRecDepth 100000 in
instance ti107 : TI Tryd.prog 107 1 16 (.agg #[(.string .empty)]) := ⟨_, rfl, rfl, rfl, rfl⟩
set_option maxRecDepth 100000 in
instance ti108 : TI Tryd.prog 108 1 16 (.agg #[(.string .empty)]) := ⟨_, rfl, rfl, rfl, rfl⟩
set_option maxRecDepth 100000 in
instance ti110 : TI Tryd.prog 110 32 32 (.agg #[(.int .u8 0), (.int .u8 0), (.int .u8 0), (.int .u8 0), (.int .u8 0), (.int .u8 0), (.int .u8 0), (.int .u8 0), (.int .u8 0), (.int .u8 0), (.int .u8 0), (.int .u8 0), (.int .u8 0), (.int .u8 0), (.int .u8 0), (.int .u8 0), (.int .u8 0), (.int .u8 0), (.int .u8 0), (.int .u8 0), (.int .u8 0), (.int .u8 0), (.int .u8 0), (.int .u8 0), (.int .u8 0), (.int .u8 0), (.int .u8 0), (.int .u8 0), (.int .u8 0), (.int .u8 0), (.int .u8 0), (.int .u8 0)]) := ⟨_, rfl, rfl, rfl, rfl⟩
set_option maxRecDepth 100000 in
instance ti111 : TI Tryd.prog 111 64 64 (.agg #[(.int .u8 0), (.int .u8 0), (.int .u8 0), (.int .u8 0), (.int .u8 0), (.int .u8 0), (.int .u8 0), (.int .u8 0), (.int .u8 0), (.int .u8 0), (.int .u8 0), (.int .u8 0), (.int .u8 0), (.int .u8 0), (.int .u8 0), (.int .u8 0), (.int .u8 0), (.int .u8 0), (.int .u8 0), (.int .u8 0), (.int .u8 0), (.int .u8 0), (.int .u8 0), (.int .u8 0), (.int .u8 0), (.int .u8 0), (.int .u8 0), (.int .u8 0), (.int .u8 0), (.int .u8 0), (.int .u8 0), (.int .u8 0), (.int .u8 0), (.int .u8 0), (.int .u8 0), (.int .u8 0), (.int .u8 0), (.int .u8 0), (.int .u8 0), (.int .u8 0), (.int .u8 0), (.int .u8 0), (.int .u8 0), (.int .u8 0), (.int .u8 0), (.int .u8 0), (.int .u8 0), (.int .u8 0), (.int .u8 0), (.int .u8 0), (.int .u8 0), (.int .u8 0), (.int .u8 0), (.int .u8 0), (.int .u8 0), (.int .u8 0), (.int .u8 0), (.int .u8 0), (.int .u8 0), (.int .u8 0), (.int .u8 0), (.int .u8 0), (.int .u8 0), (.int .u8 0)]) := ⟨_, rfl, rfl, rfl, rfl⟩
set_option maxRecDepth 100000 in
instance ti123 : TI Tryd.prog 123 11 48 (.agg #[(.int .u64 0), (.int .u64 0), (.int .u32 0), (.int .u8 0), (.int .u8 0), (.int .u8 0), (.int .u8 0), .nilFunc, (.pointer none), (.int .i32 0), (.int .i32 0)]) := ⟨_, rfl, rfl, rfl, rfl⟩
end Go.Proofs.YtdpabdbeecbnmaaDoor
