/- Disks by value, and contracts without a frame turned into contracts of the frame. No program in sight. -/
import Derived.Test.YtckcdokfhdckhaaFrame2
import Derived.Lib.SliceRun
import Derived.RangeFuncNested
import Derived.RangeFuncLeaves
import Derived.RangeFuncCalls
import Derived.OwnWalkIn
import Derived.TacticsInMore
import Derived.Scope
import Derived.Laws.Cover1
namespace Go.Fr
open Go.RowKit Go.Kx

/-- A disk by value. -/
abbrev dsk (D : Disk) : SP := agg [isl (eSl eByte) D.secs, isl eWr D.pend, exI .i64 D.left, exB D.stopped]

theorem CellsR.two {F : Nat → Prop} {w : World} {p q : SP} {cs : List Value} (h : CellsR F w [p, q] cs) : ∃ u v, cs = [u, v] ∧ p.rel F w u ∧ q.rel F w v := by
  obtain ⟨hl, ha⟩ := h
  match cs, hl with
  | [u, v], _ =>
    obtain ⟨u', h1, h2⟩ := ha 0 p rfl
    obtain ⟨v', h3, h4⟩ := ha 1 q rfl
    simp at h1 h3
    exact ⟨u, v, rfl, h1 ▸ h2, h3 ▸ h4⟩
theorem cells1 {F : Nat → Prop} {w : World} {p : SP} {cs : List Value} (h : CellsR F w [p] cs) : ∃ u, cs = [u] ∧ p.rel F w u := by
  obtain ⟨hl, ha⟩ := h
  match cs, hl with
  | [u], _ =>
    obtain ⟨u', h1, h2⟩ := ha 0 p rfl
    simp at h1
    exact ⟨u, rfl, h1 ▸ h2⟩
theorem CellsR.three {F : Nat → Prop} {w : World} {p q r : SP} {cs : List Value} (h : CellsR F w [p, q, r] cs) : ∃ u v x, cs = [u, v, x] ∧ p.rel F w u ∧ q.rel F w v ∧ r.rel F w x := by
  obtain ⟨hl, ha⟩ := h
  match cs, hl with
  | [u, v, x], _ =>
    obtain ⟨u', h1, h2⟩ := ha 0 p rfl
    obtain ⟨v', h3, h4⟩ := ha 1 q rfl
    obtain ⟨x', h5, h6⟩ := ha 2 r rfl
    simp at h1 h3 h5
    exact ⟨u, v, x, rfl, h1 ▸ h2, h3 ▸ h4, h5 ▸ h6⟩
theorem CellsR.four {F : Nat → Prop} {w : World} {p q r s : SP} {cs : List Value} (h : CellsR F w [p, q, r, s] cs) : ∃ u v x y, cs = [u, v, x, y] ∧ p.rel F w u ∧ q.rel F w v ∧ r.rel F w x ∧ s.rel F w y := by
  obtain ⟨hl, ha⟩ := h
  match cs, hl with
  | [u, v, x, y], _ =>
    obtain ⟨u', h1, h2⟩ := ha 0 p rfl
    obtain ⟨v', h3, h4⟩ := ha 1 q rfl
    obtain ⟨x', h5, h6⟩ := ha 2 r rfl
    obtain ⟨y', h7, h8⟩ := ha 3 s rfl
    simp at h1 h3 h5 h7
    exact ⟨u, v, x, y, rfl, h1 ▸ h2, h3 ▸ h4, h5 ▸ h6, h7 ▸ h8⟩
theorem CellsR.nil {F : Nat → Prop} {w : World} : CellsR F w [] [] := ⟨rfl, fun i p h => by simp at h⟩
theorem CellsR.cons {F : Nat → Prop} {w : World} {p : SP} {ps : List SP} {u : Value} {cs : List Value} (h : p.rel F w u) (k : CellsR F w ps cs) : CellsR F w (p :: ps) (u :: cs) := by
  refine ⟨by simp [k.len], fun i q hq => ?_⟩
  cases i with
  | zero => simp at hq; subst hq; exact ⟨u, rfl, h⟩
  | succ i => obtain ⟨v, h1, h2⟩ := k.at_ i q (by simpa using hq); exact ⟨v, by simpa using h1, h2⟩

theorem dsk_of {D : Disk} {F : Nat → Prop} {w : World} {v : Value} (h : (dsk D).rel F w v) : ∃ sa sn sc pa pn pc, v = .agg #[.slice sa sn sc, .slice pa pn pc, .int .i64 D.left, .bool D.stopped] ∧ Sl (eSl eByte) F w sa sn sc D.secs ∧ Sl eWr F w pa pn pc D.pend := by
  obtain ⟨cs, rfl, h⟩ := h
  obtain ⟨u, v, x, y, rfl, ⟨sa, sn, sc, rfl, h1⟩, ⟨pa, pn, pc, rfl, h2⟩, rfl, rfl⟩ := h.four
  exact ⟨sa, sn, sc, pa, pn, pc, rfl, h1, h2⟩
theorem dsk_to {D : Disk} {F : Nat → Prop} {w : World} {sa : Option Addr} {sn sc : Nat} {pa : Option Addr} {pn pc : Nat} (h1 : Sl (eSl eByte) F w sa sn sc D.secs) (h2 : Sl eWr F w pa pn pc D.pend) : (dsk D).rel F w (.agg #[.slice sa sn sc, .slice pa pn pc, .int .i64 D.left, .bool D.stopped]) :=
  ⟨[.slice sa sn sc, .slice pa pn pc, .int .i64 D.left, .bool D.stopped], rfl, .cons ⟨sa, sn, sc, rfl, h1⟩ (.cons ⟨pa, pn, pc, rfl, h2⟩ (.cons rfl (.cons rfl .nil)))⟩

/-- A contract that says of the rest only that nothing below turns. -/
theorem FnC_of {P : Program} {f : FuncId} {args : List SP} {R : SP → List Ent → Prop} (h : ∀ F w vals, CellsR F w args vals → Calls P f vals.toArray w (fun e w' => ∃ v p, e = .returned v ∧ R p [] ∧ p.rel (Up F w) w' v ∧ Below w.heap.size w w')) : FnC P f args [] R := by
  intro F w vals out hG hA
  refine (h F w vals hA).mono ?_
  rintro e w' ⟨v, p, rfl, hR, hp, hb⟩
  refine ⟨v, Up F w, p, [], rfl, hR, hp, ?_, ⟨hb.os, hb.tape, hb.output, hb.size, fun k hk _ => hb.block k hk⟩, fun b hb _ => .inl hb, fun e he => absurd he (by simp)⟩
  have hG' : Good F out w := hG
  refine ⟨fun e he => ?_, fun e he b hb' => ?_, hG'.disj⟩
  · exact e.mono (hG'.rel e he) (fun b hF hl => ⟨.inl hF, hb.block b hl⟩) fun b hb' => hb.block b (hG'.lt e he b hb').1
  · obtain ⟨h1, h2⟩ := hG'.lt e he b hb'
    exact ⟨Nat.lt_of_lt_of_le h1 hb.size, fun h => h.elim h2 fun h => absurd h (by omega)⟩

/-- A result of a disk and an error. -/
theorem RetDisk.fr {S : Nat → Prop} {w w' : World} {r : Disk × Int} {e : Ending} (h : RetDisk S w r e w') : ∃ v p, e = .returned v ∧ (p = tup [dsk r.1, exI .i64 r.2] ∧ ([] : List Ent) = []) ∧ p.rel (Up S w) w' v ∧ Below w.heap.size w w' := by
  obtain ⟨sa, sn, sc, pa, pn, pc, rfl, hD, hb⟩ := h
  exact ⟨_, _, rfl, ⟨rfl, rfl⟩, ⟨[_, _], rfl, .cons (dsk_to hD.secs hD.pend) (.cons rfl .nil)⟩, hb⟩

end Go.Fr

/- Slices compared with nil, slices without room, and rows that are owned no more in the middle of a region. No program in sight. -/
namespace Go.Fr
open Go.RowKit Go.Kx
section
variable {C : Cx} {S : (Nat → Prop) → World → World → Prop} {H : Nat → Prop} {env : Env} {loc : List Ent} {dst : Option Tmp} {ty : TypeId} {pos : String} {af : Array Edge} {g : Option (Nat × Bool)} {K : Env → List Ent → Prop} {d : Nat}

instance Scs_slV {α : Type} {E : Enc α} {l : List α} : Scs (slV E l) := Scs_cons (h := inferInstance) (k := Scs_nil)

theorem g_binE {o : BinOp} {t u : TypeId} {x y : Operand} (h : WO C H ⟨dst, .binOp o t x y u, ty, pos, af, g⟩ K env loc) : WO C H ⟨dst, .binOp o t x y u, ty, pos, af, g⟩ K env loc := h

/-- Is a slice nil? If so, then it has no elements. -/
theorem WO_isnil {α : Type} {E : Enc α} {l : List α} {t u e : TypeId} {x y : Operand} (hx : ev env x = some (isl E l)) (hy : ev env y = some (ex (.slice none 0 0))) (ht : C.P.underlying t = some (.slice e)) (hk : ∀ b : Bool, (b = true → l = []) → K ((d, exB b) :: env) loc) (hd : Nat.blt d C.N = true := by rfl) : WO C H ⟨some d, .binOp .eql t x y u, ty, pos, af, g⟩ K env loc := by
  constructor
  intro F a w hR
  obtain ⟨ao, n, c, hv, hsl⟩ := ev_eval hR hx
  have hvy : a.eval y = .slice none 0 0 := ev_eval hR hy
  have hr : (execOp a.eval ⟨some d, .binOp .eql t x y u, ty, pos, af, g⟩).run C.P w = .ok (.value (.bool ao.isNone)) w := by
    generalize a.eval = ρ at hv hvy ⊢
    simp [execOp, hv, hvy, eqGuard, go_sem, Lib.run_eql_slice_nil w t e ao n c 0 0 ht]
  unfold Oper.wp
  rw [hr]
  refine ⟨F, _, _, hR.put hd rfl, Nat.le_refl _, fun _ hb _ => hb, fun _ _ _ => rfl, hk ao.isNone fun h => ?_⟩
  have h0 : ao = none := by simpa using h
  have h1 := hsl.nil h0
  have h2 := hsl.cap
  have h3 := hsl.length
  exact List.eq_nil_of_length_eq_zero (by omega)

/-- x[:n:n], all of it. -/
theorem WT_clip {α : Type} {E : Enc α} {l : List α} {t e : TypeId} {x z q : Operand} {k k2 : IntKind} {a1 a2 : Int} {lo hi bt : Nat} {zv : Value} (hx : ev env x = some (isl E l)) (hy : ev env z = some (exI k a1)) (hz : ev env q = some (exI k2 a2)) [e1 : Nt a1 lo] [e2 : Nt a2 hi] (ht : C.P.underlying t = some (.slice e)) [hT : TI C.P e E.size bt zv] (h1 : lo = l.length := by first | rfl | omega) (h2 : hi = l.length := by first | rfl | omega) :
    WT C S ⟨dst, .slice t x none (some z) (some q), ty, pos, af, g⟩ (islc E l) env loc := by
  constructor
  intro F a w hR
  obtain ⟨ti, hi', hsz, _, _⟩ := hT.out
  obtain ⟨rfl⟩ := e1; obtain ⟨rfl⟩ := e2
  subst h1 h2
  obtain ⟨ao, n, c, hv, hs⟩ := ev_eval hR hx
  have hvy : a.eval z = .int k l.length := ev_eval hR hy
  have hvz : a.eval q = .int k2 l.length := ev_eval hR hz
  have hn := hs.length
  have hc := hs.cap
  have h := Sl.sub hs 0 l.length l.length (by omega) (by omega) (by omega) (by omega)
  rw [List.drop_zero, List.take_of_length_le (Nat.le_refl _)] at h
  refine ⟨_, ⟨_, rfl, h⟩, fun _ _ => ?_⟩
  generalize a.eval = ρ at hv hvy hvz ⊢
  simp [execOp, hv, hvy, hvz, Instr.sliceAt, run_und ht, Instr.slice, Instr.sliceBounds, run_bound (show l.length ≤ c by omega), run_siz hi', hsz, go_sem]

/-- A growing row is owned no more, from here on. -/
theorem Leads_fvec {k T n t : Nat} {v : Value} {ps : List SP} {α : Type} {E : Enc α} {fs : α → List SP} (l : List α) (ht : look t env = some (ex v)) (he : loc[k]? = some (vec v T E.size n ps)) [hE : Fits E fs] (hps : ps = l.flatMap fs) (hn : l.length = n) (hf0 : ∀ a, (fs a).length = E.size := by exact fun _ => rfl) (hpos : 0 < E.size := by decide) (hby : n * E.bytes ≤ 140737488355328 := by first | omega | (simp only [eSl, eByte]; omega)) : Leads C env loc ((t, isl E l) :: env) (loc.eraseIdx k) := by
  have hk := List.getElem?_eq_some_iff.1 he
  have e1 : loc = loc.take k ++ vec v T E.size n ps :: loc.drop (k + 1) := by
    conv => lhs; rw [← List.take_append_drop k loc]
    rw [List.drop_eq_getElem_cons hk.1, hk.2]
  have e2 : loc.eraseIdx k = loc.take k ++ loc.drop (k + 1) := List.eraseIdx_eq_take_drop_succ _ _
  rw [e2]
  conv => arg 3; rw [e1]
  exact Leads_freeze_vec hE hf0 hps hn hpos hby ht
theorem WPL_fvec {ops : Array Oper} {Q : Post} {ol : List Oper} {k T n t : Nat} {v : Value} {ps : List SP} {α : Type} {E : Enc α} {fs : α → List SP} (l : List α) (ht : look t env = some (ex v)) (he : loc[k]? = some (vec v T E.size n ps)) [hE : Fits E fs] (hps : ps = l.flatMap fs) (hn : l.length = n) (h : WPL C ops Q ol ((t, isl E l) :: env) (loc.eraseIdx k)) (hf0 : ∀ a, (fs a).length = E.size := by exact fun _ => rfl) (hpos : 0 < E.size := by decide) (hby : n * E.bytes ≤ 140737488355328 := by first | omega | (simp only [eSl, eByte]; omega)) : WPL C ops Q ol env loc := WPL_leads (Leads_fvec l ht he hps hn hf0 hpos hby) h
/-- A row is owned no more, from here on. -/
theorem Leads_frow {k b T n c t tot : Nat} {ps : List SP} {α : Type} {E : Enc α} {fs : α → List SP} (l : List α) (ht : look t env = some (ex (.slice (some ⟨b, 0, none⟩) n c))) (he : loc[k]? = some (row b T tot ps)) [hE : Fits E fs] (hps : ps = l.flatMap fs) (hn : l.length = n) (htot : tot = c * E.size := by first | rfl | omega) (hc : c ≤ maxLen := by first | assumption | omega | (simp only [maxLen]; omega)) (hf0 : ∀ a, (fs a).length = E.size := by exact fun _ => rfl) (hpos : 0 < E.size := by decide) (hby : n * E.bytes ≤ 140737488355328 := by first | omega | (simp only [eSl, eByte]; omega)) : Leads C env loc ((t, isl E l) :: env) (loc.eraseIdx k) := by
  have hk := List.getElem?_eq_some_iff.1 he
  have e1 : loc = loc.take k ++ row b T tot ps :: loc.drop (k + 1) := by
    conv => lhs; rw [← List.take_append_drop k loc]
    rw [List.drop_eq_getElem_cons hk.1, hk.2]
  have e2 : loc.eraseIdx k = loc.take k ++ loc.drop (k + 1) := List.eraseIdx_eq_take_drop_succ _ _
  rw [e2]
  conv => arg 3; rw [e1]
  exact Leads_freeze hE hf0 hps hn htot hpos hc hby ht
theorem WPL_frow {ops : Array Oper} {Q : Post} {ol : List Oper} {k b T n c t tot : Nat} {ps : List SP} {α : Type} {E : Enc α} {fs : α → List SP} (l : List α) (ht : look t env = some (ex (.slice (some ⟨b, 0, none⟩) n c))) (he : loc[k]? = some (row b T tot ps)) [hE : Fits E fs] (hps : ps = l.flatMap fs) (hn : l.length = n) (h : WPL C ops Q ol ((t, isl E l) :: env) (loc.eraseIdx k)) (htot : tot = c * E.size := by first | rfl | omega) (hc : c ≤ maxLen := by first | assumption | omega | (simp only [maxLen]; omega)) (hf0 : ∀ a, (fs a).length = E.size := by exact fun _ => rfl) (hpos : 0 < E.size := by decide) (hby : n * E.bytes ≤ 140737488355328 := by first | omega | (simp only [eSl, eByte]; omega)) : WPL C ops Q ol env loc := WPL_leads (Leads_frow l ht he hps hn htot hc hf0 hpos hby) h
/-- b is a, computed. -/
structure Nf {α : Type} (a b : α) : Prop where
  h : b = a
/-- A struct literal, its cells one by one. -/
theorem WT_build2 {t : TypeId} {parts : Array (Nat × Operand)} {fs : Array Field} {places : List (Nat × Nat)} {pq : List (Nat × List SP)} {sz bt : Nat} {z : Value} {qs : List SP} (ht : C.P.underlying t = some (.struct fs)) [hT : TI C.P t sz bt z] (hpl : fs.toList.mapM (fun f => (C.P.info? f.type).map fun i => (f.offset, i.size)) = some places) (hp : PartsO env (places.toArray[·]?) parts.toList pq) (hq : Nf (fillC (z.cells.toList.map ex) pq) qs := by simp only [fillC, putC, Value.cells, List.foldl_cons, List.foldl_nil, List.map_cons, List.map_nil, List.length_cons, List.length_nil, Nat.zero_add, Nat.reduceAdd, List.take_succ_cons, List.take_zero, List.drop_succ_cons, List.drop_zero, List.nil_append, List.cons_append, List.drop_nil, List.take_nil, List.set_cons_zero, List.set_cons_succ]; exact ⟨rfl⟩) (hle : pq.all (fun x => Nat.ble (x.1 + x.2.length) z.cells.size) = true := by rfl) :
    WT C S ⟨dst, .build t parts, ty, pos, af, g⟩ (agg qs) env loc := hq.h ▸ WT_build ht hpl hp hle
/-- A struct that is loaded, its cells one by one. -/
theorem WT_loada2 {qs : List SP} {t : TypeId} {x : Operand} {k b off T tot : Nat} {ps : List SP} {d : TypeDesc} {sz bt : Nat} {z : Value} (hx : ev env x = some (ex (.pointer (some ⟨b, off, none⟩)))) (he : loc[k]? = some (row b T tot ps)) (hu : C.P.underlying t = some d) [hT : TI C.P t sz bt z] (hH : H b := by first | trivial | exact feet_row (k := 0) rfl | exact feet_row (k := 1) rfl | exact feet_row (k := 2) rfl | exact feet_row (k := 3) rfl | exact feet_row (k := 4) rfl | exact feet_row (k := 5) rfl) (hd : Desc.aggB d = true := by rfl) (hl : Nat.ble (off + sz) ps.length = true := by rfl) (hq : Nf ((ps.drop off).take sz) qs := by simp only [fillC, putC, Value.cells, List.foldl_cons, List.foldl_nil, List.map_cons, List.map_nil, List.length_cons, List.length_nil, Nat.zero_add, Nat.reduceAdd, List.take_succ_cons, List.take_zero, List.drop_succ_cons, List.drop_zero, List.nil_append, List.cons_append, List.drop_nil, List.take_nil, List.set_cons_zero, List.set_cons_succ]; exact ⟨rfl⟩) :
    WT C (Hold H) ⟨dst, .load t x, ty, pos, af, g⟩ (agg qs) env loc := hq.h ▸ WT_loada hx he hu hH hd hl
end
/-- The next operation is a store. -/
theorem at_store {C : Cx} {ops : Array Oper} {Q : Post} {t : TypeId} {x y : Operand} {d : Option Nat} {ty : TypeId} {pos : String} {af : Array Edge} {g : Option (Nat × Bool)} {rest : List Oper} {env : Env} {loc : List Ent} (h : WPL C ops Q (⟨d, .store t x y, ty, pos, af, g⟩ :: rest) env loc) : WPL C ops Q (⟨d, .store t x y, ty, pos, af, g⟩ :: rest) env loc := h
theorem flat_isl {α : Type} {E : Enc α} {l : List (List α)} {b : List α} : l.flatMap (slV E) ++ [isl E b] = (l ++ [b]).flatMap (slV E) := by simp [slV]
theorem map_isl {α : Type} {E : Enc α} {l : List (List α)} {b : List α} : l.map (isl E) ++ [isl E b] = (l ++ [b]).flatMap (slV E) := by rw [flat_slV]; simp
/-- What is known of one value is known of the other. -/
def Im (p q : SP) : Prop := ∀ F w v, p.rel F w v → q.rel F w v
theorem Im.refl (p : SP) : Im p p := fun _ _ _ h => h
inductive Ims : List SP → List SP → Prop
  | nil : Ims [] []
  | cons {p q : SP} {ps qs : List SP} (h : Im p q) (k : Ims ps qs) : Ims (p :: ps) (q :: qs)
theorem Ims.cells {ps qs : List SP} (h : Ims ps qs) {F : Nat → Prop} {w : World} : ∀ {cs : List Value}, CellsR F w ps cs → CellsR F w qs cs := by
  induction h with
  | nil => exact fun h => h
  | @cons p q ps qs h k ih =>
    intro cs hc
    match cs, hc with
    | [], hc => have := hc.len; simp at this
    | c :: cs, hc =>
      refine .cons (h _ _ _ ?_) (ih ⟨by have := hc.len; simpa using this, fun i r hr => ?_⟩)
      · obtain ⟨v, h1, h2⟩ := hc.at_ 0 p rfl
        simp at h1
        exact h1 ▸ h2
      · obtain ⟨v, h1, h2⟩ := hc.at_ (i + 1) r (by simpa using hr)
        exact ⟨v, by simpa using h1, h2⟩
theorem Ims.refl : ∀ (ps : List SP), Ims ps ps
  | [] => .nil
  | p :: ps => .cons (.refl p) (Ims.refl ps)
theorem Ims.agg {ps qs : List SP} (h : Ims ps qs) : Im (agg ps) (agg qs) := fun _ _ _ ⟨cs, h1, h2⟩ => ⟨cs, h1, h.cells h2⟩
theorem Ims.tup {ps qs : List SP} (h : Ims ps qs) : Im (tup ps) (tup qs) := fun _ _ _ ⟨cs, h1, h2⟩ => ⟨cs, h1, h.cells h2⟩
theorem Im.nil {α : Type} {E : Enc α} : Im (ex (.slice none 0 0)) (isl E ([] : List α)) := fun _ _ _ h => by
  have h' : _ = _ := h
  exact ⟨none, 0, 0, h', Sl_nil⟩
theorem Im.clip {α : Type} {E : Enc α} {l : List α} : Im (islc E l) (isl E l) := fun _ _ _ ⟨a, h1, h2⟩ => ⟨a, _, _, h1, h2⟩

/-- Back from a function, what is known of the result made weaker. -/
theorem retw {C : Cx} {fn : Func} {R : SP → List Ent → Prop} {env : Env} {loc loc' : List Ent} {p q : SP} (h : ∀ F a w, Rel C F env loc a w → ∃ F' v p' loc'', (results fn a.tmps).run C.P w = .ok v w ∧ (p' = p ∧ loc'' = loc') ∧ p'.rel F' w v ∧ Good F' (loc'' ++ C.out) w ∧ (∀ b, C.F0 b → b < C.w0.heap.size → F' b) ∧ ∀ e ∈ loc'', ∀ b ∈ e.foot, C.w0.heap.size ≤ b ∨ C.X b) (hi : Im p q) (hR : R q loc') : ∀ F a w, Rel C F env loc a w → ∃ F' v p loc', (results fn a.tmps).run C.P w = .ok v w ∧ R p loc' ∧ p.rel F' w v ∧ Good F' (loc' ++ C.out) w ∧ (∀ b, C.F0 b → b < C.w0.heap.size → F' b) ∧ ∀ e ∈ loc', ∀ b ∈ e.foot, C.w0.heap.size ≤ b ∨ C.X b := by
  intro F a w hRel
  obtain ⟨F', v, p', loc'', h1, ⟨rfl, rfl⟩, h3, h4⟩ := h F a w hRel
  exact ⟨F', v, q, loc'', h1, hR, hi _ _ _ h3, h4⟩
end Go.Fr

/- Ranges over a function: iterators, their rounds, and the statement, in the frame. No program in sight. -/
namespace Go.Fr
open Go.RowKit Go.Kx

/-! ### Code in a round's frame -/

def Calm (Fe : Fence) : Prop := Fe = Fence.wide ∨ ∃ l, Fe = Fence.wide.inRound l
theorem Calm.fn {Fe : Fence} (h : Calm Fe) (f : FuncId) : Fe.fn f := by rcases h with rfl | ⟨l, rfl⟩ <;> trivial
theorem Calm.depth {Fe : Fence} (h : Calm Fe) : Fe.depth = none := by rcases h with rfl | ⟨l, rfl⟩ <;> rfl
theorem Calm.calls {Fe : Fence} (h : Calm Fe) {n : Nat} {P : Program} {f : FuncId} {args : Array Value} {w : World} {R : Ending → World → Prop} (k : Calls P f args w R) : CallsIn Fe n P f args w R := by
  rcases h with rfl | ⟨l, rfl⟩
  · exact callsIn_wide.2 k
  · exact CallsIn.inRound l (callsIn_wide.2 k)

theorem in_of_wp {Fe : Fence} (hFe : Calm Fe) {n : Nat} {P : Program} {o : Oper} {a : Act} {w : World} {K : Act → World → Prop} {Q : Exit → Act → World → Prop} (hd : ∀ c, o.op ≠ .defer c) (h : o.wp P a w K (fun _ _ _ => False)) : o.wpIn Fe n P a w K Q := by
  refine ⟨fun f _ => hFe.fn f, ?_⟩
  rw [Oper.semAt_plain Fe _ _ hd]
  unfold Oper.wp at h
  generalize (execOp a.eval o).run P w = r at h ⊢
  have hdep : Fe.depth.isSome = true → 1 ≤ n := by rw [hFe.depth]; simp
  cases r with
  | ok nx w' =>
    cases nx <;> simp only [Oper.upon] at h <;> simp only [Oper.uponIn] <;>
      first
        | exact h
        | exact ⟨hdep, hFe.calls (Calls.mono h fun e w'' he => by cases e <;> first | exact he | exact he.elim | (obtain ⟨_, _, hf⟩ := he; exact hf.elim))⟩
        | exact ⟨hdep, by rcases hFe with rfl | ⟨l, rfl⟩ <;> exact fun c cs _ => let ⟨v, w', r, s⟩ := h c cs; ⟨v, w', r, stepsIn_wide.2 s⟩⟩
  | halt x w' => cases x <;> simp only [Oper.upon] at h <;> exact h.elim

structure WPI (C : Cx) (Fe : Fence) (n : Nat) (ops : Array Oper) (Q : Post) (l : List Oper) (env : Env) (loc : List Ent) : Prop where
  out : ∀ F a w, Rel C F env loc a w → wpListIn Fe n C.P ops (lift C Q) l a w
structure WPC (C : Cx) (Fe : Fence) (n : Nat) (c : Code) (Q : Post) (env : Env) (loc : List Ent) : Prop where
  out : ∀ F a w, Rel C F env loc a w → c.wpIn Fe n C.P (lift C Q) a w

theorem WPI_nil {C : Cx} {Fe : Fence} {n : Nat} {ops : Array Oper} {Q : Post} {env : Env} {loc : List Ent} (h : Q .normal env loc) : WPI C Fe n ops Q [] env loc := ⟨fun F _ _ hR => ⟨F, env, loc, hR, h⟩⟩
theorem WPI_leads {C : Cx} {Fe : Fence} {n : Nat} {ops : Array Oper} {Q : Post} {l : List Oper} {env env' : Env} {loc loc' : List Ent} (hl : Leads C env loc env' loc') (h : WPI C Fe n ops Q l env' loc') : WPI C Fe n ops Q l env loc := ⟨fun F a w hR => let ⟨F', hR'⟩ := hl F a w hR; h.out F' a w hR'⟩
theorem WPI_op {C : Cx} {Fe : Fence} {n : Nat} {H : Nat → Prop} {ops : Array Oper} {Q : Post} {o : Oper} {rest : List Oper} {env : Env} {loc : List Ent} (hFe : Calm Fe) (hd : ∀ c, o.op ≠ .defer c) (hg : o.guard = none) (h : WO C H o (fun env loc => WPI C Fe n ops Q rest env loc) env loc) : WPI C Fe n ops Q (o :: rest) env loc := by
  constructor
  intro F a w hR
  unfold wpListIn
  rw [if_pos (by simp [Region.wanted, hg])]
  exact in_of_wp hFe hd (upon_mono (fun a' w' ⟨F', env', loc', hR', _, _, _, hk⟩ => hk.out F' a' w' hR') (fun _ _ _ hf => hf) (h.out F a w hR))
theorem WPI_t {C : Cx} {Fe : Fence} {n : Nat} {ops : Array Oper} {Q : Post} {d : Nat} {op : Op} {ty : TypeId} {pos : String} {af : Array Edge} {rest : List Oper} {env : Env} {loc : List Ent} {p : SP} (hFe : Calm Fe) (hdf : ∀ c, op ≠ .defer c)
    (h : WT C (Hold fun _ => True) ⟨some d, op, ty, pos, af, none⟩ p env loc) (hd : Nat.blt d C.N = true) (hk : WPI C Fe n ops Q rest ((d, p) :: env) loc) : WPI C Fe n ops Q (⟨some d, op, ty, pos, af, none⟩ :: rest) env loc :=
  WPI_op (H := fun _ => False) hFe hdf rfl (WO_t h hd hk)
theorem WPC_region {C : Cx} {Fe : Fence} {n id : Nat} {l : List Oper} {Q : Post} {env : Env} {loc : List Ent} (h : WPI C Fe n l.toArray Q l env loc) : WPC C Fe n (.region id l.toArray false) Q env loc := ⟨fun F a w hR => wpIn_region_lit (h.out F a w hR)⟩
theorem WPC_block {C : Cx} {Fe : Fence} {n id : Nat} {c : Code} {Q : Post} {env : Env} {loc : List Ent} (h : WPC C Fe n c (fun e env loc => e = .normal ∧ Q .normal env loc) env loc) : WPC C Fe n (.block id c) Q env loc := by
  refine ⟨fun F a w hR => wpIn_block (wpIn_mono (h.out F a w hR) ?_)⟩
  rintro e a' w' ⟨F', env', loc', hR', rfl, hq⟩
  exact ⟨F', env', loc', hR', hq⟩
theorem WP_regionI {C : Cx} {n id : Nat} {l : List Oper} {Q : Post} {env : Env} {loc : List Ent} (h : WPI C Fence.wide n l.toArray Q l env loc) : WP C (.region id l.toArray false) Q env loc := ⟨fun F a w hR => wpIn_wide.1 (wpIn_region_lit (h.out F a w hR))⟩
theorem WP_label {C : Cx} {l : Nat} {Q : Post} {env : Env} {loc : List Ent} (h : Q .normal env loc) : WP C (.label l) Q env loc := ⟨fun F _ _ hR => wp_label ⟨F, env, loc, hR, h⟩⟩
def noGotoP (Q : Post) : Post
  | .goto _, _, _ => False
  | e, env, loc => Q e env loc
theorem WP_scope {C : Cx} {c : Code} {Q : Post} {env : Env} {loc : List Ent} (h : WP C c (noGotoP Q) env loc) : WP C (.scope c) Q env loc := by
  refine ⟨fun F a w hR => wp_scope_straight (Code.wp_mono ?_ (h.out F a w hR))⟩
  rintro e a' w' ⟨F', env', loc', hR', hq⟩
  cases e <;> first | exact hq.elim | exact ⟨F', env', loc', hR', hq⟩

/-! ### Yield -/

/-- A call of yield for the loop l: it says go on, and leads from A to B. -/
def YieldC (P : Program) (l : Nat) (args : List SP) (A B : List Ent → Prop) : Prop := ∀ m F w vals inn out, A inn → Good F (inn ++ out) w → CellsR F w args vals →
  YieldAt Fence.wide m P l vals.toArray w (fun e w' => e = .returned (.bool true) ∧ ∃ F' loc', B loc' ∧ Good F' (loc' ++ out) w' ∧ Ch (footX inn) w w' ∧ (∀ b, F b → b < w.heap.size → F' b) ∧ ∀ e ∈ loc', ∀ b ∈ e.foot, w.heap.size ≤ b ∨ footX inn b)

theorem WPI_yield {C : Cx} {n l d : Nat} {ops : Array Oper} {Q : Post} {ty : TypeId} {pos : String} {af : Array Edge} {rest : List Oper} {env : Env} {loc : List Ent} {x : Operand} {xs : Array Operand} {ts : Array TypeId} {args : List SP} {A B : List Ent → Prop} (hx : ev env x = some (ex (.func (.yield l) #[] #[]))) (hc : YieldC C.P l args A B) (ha : xs.toList.map (ev env) = args.map some) (hA : A loc) (hk : ∀ loc', B loc' → WPI C Fence.wide n ops Q rest ((d, exB true) :: env) loc') (hd : Nat.blt d C.N = true := by rfl) : WPI C Fence.wide n ops Q (⟨some d, .call ⟨.value x, xs, ts⟩, ty, pos, af, none⟩ :: rest) env loc := by
  constructor
  intro F a w hR
  unfold wpListIn
  rw [if_pos (by simp [Region.wanted])]
  refine ⟨fun _ _ => trivial, ?_⟩
  rw [Oper.semAt_plain Fence.wide _ _ (fun c h => by cases h)]
  obtain ⟨fn, tmps, assign, body, hy, hr⟩ := hc (n - 1) F w _ loc C.out hA hR.good (call_cells hR ha)
  have hv : a.eval x = .func (.yield l) #[] #[] := ev_eval hR hx
  have hrun : (execOp a.eval ⟨some d, .call ⟨.value x, xs, ts⟩, ty, pos, af, none⟩).run C.P w = .ok (.round l fn tmps assign body) w := by
    generalize a.eval = ρ at hv hy ⊢
    have e : (xs.toList.map ρ).toArray = xs.map ρ := by rw [← Array.toList_map]
    rw [e] at hy
    simp [execOp, resolve, invoke, go_sem, hv, hy]
  rw [hrun]
  refine ⟨by simp [Fence.wide], hr.mono ?_⟩
  rintro e w' ⟨rfl, F', loc', hB, hG, hch, hgr, hown⟩
  have hnot : ∀ b, F b → ¬ footX loc b := fun b hb ⟨e, he, hbe⟩ => (hR.good.lt e (List.mem_append_left _ he) b hbe).2 hb
  refine (hk loc' hB).out F' _ w' (hR.next hG (fun b hb hlt => ⟨hgr b hb hlt, hch.block b hlt (hnot b hb)⟩) (hR.ch.trans hch (fun _ _ h => h) fun b hb ⟨e, he, hbe⟩ => ?_) (fun e he b hb => ?_) hd rfl)
  · exact (hR.own e he b hbe).elim (fun h => absurd hb (by omega)) id
  · rcases hown e he b hb with h | ⟨e', he', hb'⟩
    · exact .inl (Nat.le_trans hR.ch.size h)
    · exact hR.own e' he' b hb'

/-! ### Closures -/

/-- A function with what it has captured. -/
def clo (f : FuncId) (cs : List SP) : SP := ⟨fun F w v => ∃ vs : List Value, v = .func (.func f) #[] vs.toArray ∧ CellsR F w cs vs, fun ⟨vs, h1, h2⟩ hk => ⟨vs, h1, h2.mono hk⟩⟩

theorem Leads_clo {C : Cx} {env : Env} {l1 l2 : List Ent} {b T tot t : Nat} {ps : List SP} {f : FuncId} (ht : look t env = some (ex (.func (.func f) #[] #[.pointer (some ⟨b, 0, none⟩)]))) : Leads C env (l1 ++ row b T tot ps :: l2) ((t, clo f [fp ps]) :: env) (l1 ++ l2) := by
  intro F a w hR
  have hmem : row b T tot ps ∈ (l1 ++ row b T tot ps :: l2) ++ C.out := by simp
  obtain ⟨cur, h1, h2, h3⟩ := hR.good.rel _ hmem
  have hb := hR.good.lt _ hmem b (by simp [row])
  have hm : ∀ k, F k → k < w.heap.size → (F k ∨ k = b) ∧ w.heap[k]? = w.heap[k]? := fun k hk _ => ⟨.inl hk, rfl⟩
  have hsub : (l1 ++ l2 ++ C.out).Sublist ((l1 ++ row b T tot ps :: l2) ++ C.out) := ((List.Sublist.refl l1).append (List.sublist_cons_self _ _)).append (List.Sublist.refl _)
  have hdis : ∀ e ∈ l1 ++ l2 ++ C.out, b ∉ e.foot := by
    intro e he hbe
    have hd := hR.good.disj
    rw [List.append_assoc, List.cons_append] at hd
    rw [List.append_assoc] at he
    have hd2 := List.pairwise_append.1 hd
    rcases List.mem_append.1 he with he | he
    · exact hd2.2.2 e he _ List.mem_cons_self b hbe (by simp [row])
    · exact (List.pairwise_cons.1 hd2.2.1).1 e he b (by simp [row]) hbe
  refine ⟨fun k => F k ∨ k = b, ⟨fun e he => e.mono (hR.good.rel e (hsub.subset he)) hm fun _ _ => rfl, fun e he k hk => ⟨(hR.good.lt e (hsub.subset he) k hk).1, ?_⟩, hR.good.disj.sublist hsub⟩, fun t' q hq => ?_, hR.size, hR.defers, hR.ch, fun e he => hR.own e ?_, fun k hk hlt => .inl (hR.grow k hk hlt)⟩
  · rintro (h | rfl)
    · exact (hR.good.lt e (hsub.subset he) k hk).2 h
    · exact hdis e he hk
  · rw [look_cons] at hq
    split at hq
    · rename_i e; cases hq; subst e
      have hv : a.tmps.getD t' undef = .func (.func f) #[] #[.pointer (some ⟨b, 0, none⟩)] := hR.env _ _ ht
      rw [hv]
      refine ⟨[.pointer (some ⟨b, 0, none⟩)], rfl, .cons ⟨b, 0, rfl, .inr rfl, hb.1, fun i p hp => ?_⟩ .nil⟩
      obtain ⟨v, h4, h5⟩ := h3 i p hp
      exact ⟨v, by simp [World.cell?, h1, h4], p.mono h5 hm⟩
    · exact q.mono (hR.env t' q hq) hm
  · rcases List.mem_append.1 he with h | h
    · exact List.mem_append_left _ h
    · exact List.mem_append_right _ (List.mem_cons_of_mem _ h)

/-! ### Iterators -/

/-- The iterator g hands x1, x2, .. to yield, and then ends. -/
def GenC {α : Type} (P : Program) (g : FuncId) (lb : List SP) (encs : α → List SP) (xs : List α) : Prop := ∀ (l : Nat) (St : List α → List Ent → Prop) (loc0 : List Ent), St [] loc0 →
  (∀ pre x, (pre ++ [x]) <+: xs → YieldC P l (encs x) (St pre) (St (pre ++ [x]))) → FnC P g (ex (.func (.yield l) #[] #[]) :: lb) loc0 (fun _ loc' => St xs loc')

/-! ### The statement -/

/-- The record of a loop; and what was readable as it began is so still. -/
def loopE (l : Nat) (rec : Loop) (Fe : Nat → Prop) (we : World) : Ent where
  foot := [l]
  rel S w := w.heap[l]? = some (.loop rec) ∧ ∀ b, Fe b → b < we.heap.size → S b ∧ w.heap[b]? = we.heap[b]?
  mono := by
    rintro S S' w w' ⟨h1, h2⟩ hk hf
    refine ⟨(hf l (by simp)).trans h1, fun b hb hl => ?_⟩
    obtain ⟨h3, h4⟩ := h2 b hb hl
    have hlt : b < w.heap.size := by
      rw [Array.getElem?_eq_getElem hl] at h4
      exact (Array.getElem?_eq_some_iff.1 h4).1
    obtain ⟨h5, h6⟩ := hk b h3 hlt
    exact ⟨h5, h6.trans h4⟩
/-- A mark among the deferred calls. -/
def markE (D : Nat) : Ent where
  foot := [D]
  rel _ w := w.heap[D]? = some (.deferred (some []))
  mono h _ hf := (hf D (by simp)).trans h

abbrev Cx.mark (C : Cx) (D : Nat) : Cx := { C with out := markE D :: C.out, dfs := { target := .collected D, args := #[] } :: C.dfs }

theorem Ch.put {X : Nat → Prop} {w : World} {l : Nat} {o : Obj} (h : X l) : Ch X w (w.putObj l o) := ⟨rfl, rfl, rfl, by simp, fun k _ hx => World.putObj_heap_other fun e => hx (e ▸ h)⟩
theorem Ch.new {X : Nat → Prop} {w : World} {o : Obj} : Ch X w (w.alloc o) := ⟨rfl, rfl, rfl, by simp, fun k hk _ => Below.heap_alloc _ _ _ hk⟩

/-- One block that is owned by the first is turned. -/
theorem Good.put {F : Nat → Prop} {e e' : Ent} {L : List Ent} {w : World} {l : Nat} {o : Obj} (h : Good F (e :: L) w) (h1 : e.foot = [l]) (h2 : e'.foot = [l]) (hr : (∀ b, b ≠ l → (w.putObj l o).heap[b]? = w.heap[b]?) → (w.putObj l o).heap[l]? = some o → e'.rel F (w.putObj l o)) : Good F (e' :: L) (w.putObj l o) := by
  have hlt := h.lt e List.mem_cons_self l (by rw [h1]; simp)
  have hoth : ∀ b, b ≠ l → (w.putObj l o).heap[b]? = w.heap[b]? := fun b hb => World.putObj_heap_other hb
  have hp := List.pairwise_cons.1 h.disj
  have hdis : ∀ x ∈ L, ∀ b ∈ x.foot, b ≠ l := fun x hx b hb e' => hp.1 x hx l (by rw [h1]; simp) (e' ▸ hb)
  refine ⟨fun x hx => ?_, fun x hx b hb => ?_, List.pairwise_cons.2 ⟨fun x hx b hb => ?_, hp.2⟩⟩
  · rcases List.mem_cons.1 hx with rfl | hx
    · exact hr hoth (World.putObj_heap_same hlt.1)
    · exact x.mono (h.rel x (List.mem_cons_of_mem _ hx)) (fun b hb _ => ⟨hb, hoth b fun e' => hlt.2 (e' ▸ hb)⟩) fun b hb => hoth b (hdis x hx b hb)
  · rw [World.putObj_size]
    rcases List.mem_cons.1 hx with rfl | hx
    · rw [h2] at hb; simp at hb; subst hb; exact hlt
    · exact h.lt x (List.mem_cons_of_mem _ hx) b hb
  · rw [h2] at hb; simp at hb; subst hb
    exact hp.1 x hx b (by rw [h1]; simp)

/-- A block is laid, owned by e. -/
theorem Good.lay {F : Nat → Prop} {e : Ent} {L : List Ent} {w : World} {o : Obj} (h : Good F L w) (hF : ∀ b, F b → b < w.heap.size) (h1 : e.foot = [w.heap.size]) (hr : e.rel F (w.alloc o)) : Good F (e :: L) (w.alloc o) := by
  refine ⟨fun x hx => ?_, fun x hx b hb => ?_, List.pairwise_cons.2 ⟨fun x hx b hb => ?_, h.disj⟩⟩
  · rcases List.mem_cons.1 hx with rfl | hx
    · exact hr
    · exact x.mono (h.rel x hx) (fun b hb hl => ⟨hb, Below.heap_alloc _ _ _ hl⟩) fun b hb => Below.heap_alloc _ _ _ (h.lt x hx b hb).1
  · rw [World.size_alloc]
    rcases List.mem_cons.1 hx with rfl | hx
    · rw [h1] at hb; simp at hb; subst hb; exact ⟨by omega, fun h => absurd (hF _ h) (by omega)⟩
    · exact ⟨by have := (h.lt x hx b hb).1; omega, (h.lt x hx b hb).2⟩
  · rw [h1] at hb; simp at hb; subst hb
    exact fun hb => absurd (h.lt x hx _ hb).1 (by omega)

end Go.Fr

/- The statement that ranges over a function, in the frame. No program in sight. -/
namespace Go.Fr
open Go.RowKit Go.Kx

/-- Code that leads to T, which speaks of the activation itself. -/
structure WPR (C : Cx) (c : Code) (T : Exit → Act → World → Prop) (env : Env) (loc : List Ent) : Prop where
  out : ∀ F a w, Rel C F env loc a w → c.wp C.P T a w
def rawP (C : Cx) (T : Exit → Act → World → Prop) : Post := fun e env loc => ∀ F a w, Rel C F env loc a w → T e a w

theorem WPR_seq {C : Cx} {x y : Code} {T : Exit → Act → World → Prop} {env : Env} {loc : List Ent} (h : WP C x (thenP (fun env loc => WPR C y T env loc) (rawP C T)) env loc) : WPR C (.seq x y) T env loc := by
  refine ⟨fun F a w hR => wp_seq (Code.wp_mono ?_ (h.out F a w hR))⟩
  rintro e a' w' ⟨F', env', loc', hR', hq⟩
  cases e with
  | normal => exact (show WPR C y T env' loc' from hq).out F' a' w' hR'
  | _ => exact (show rawP C T _ env' loc' from hq) F' a' w' hR'
theorem WPR_ret {C : Cx} {T : Exit → Act → World → Prop} {env : Env} {loc : List Ent} (h : rawP C T .ret env loc) : WPR C .ret T env loc := ⟨fun F a w hR => wp_ret (h F a w hR)⟩

/-- What a function hands back. -/
def fnR (C0 : Cx) (R : SP → List Ent → Prop) (e : Ending) (w' : World) : Prop := ∃ v F' p loc', e = .returned v ∧ R p loc' ∧ p.rel F' w' v ∧ Good F' (loc' ++ C0.out) w' ∧ Ch C0.X C0.w0 w' ∧ (∀ b, C0.F0 b → b < C0.w0.heap.size → F' b) ∧ ∀ e ∈ loc', ∀ b ∈ e.foot, C0.w0.heap.size ≤ b ∨ C0.X b
abbrev retT (C0 : Cx) (fn : Func) (R : SP → List Ent → Prop) : Exit → Act → World → Prop := bodyPostM Fence.wide 5 C0.P fn (fnR C0 R)

theorem FnC_enterM {P : Program} {f : FuncId} {fn : Func} {c : Code} {args : List SP} {inn : List Ent} {R : SP → List Ent → Prop} {N : Nat} (hf : P.funcs[f]? = some fn) (hb : fn.body = some c) (hN : fn.ntmps = N) (hle : Nat.ble args.length N = true)
    (h : ∀ w0 F0 out, WPR ⟨P, w0, F0, footX inn, out, N, []⟩ c (retT ⟨P, w0, F0, footX inn, out, N, []⟩ fn R) (argEnv 0 args) inn) : FnC P f args inn R := by
  intro F w vals out hG hA
  have hle' : args.length ≤ N := Nat.le_of_ble_eq_true hle
  have hsz : vals.length = args.length := hA.len
  refine callsIn_wide.1 (callsIn_of_wp_marks (F := Fence.wide) (n := 5) hf hb trivial (wpIn_wide.2 ((h w F out).out F _ w ⟨hG, ?_, ?_, rfl, Ch.refl _ _, fun e he b hb => .inr ⟨e, he, hb⟩, fun b hb _ => hb⟩)))
  · intro t p hp
    obtain ⟨j, rfl, hj⟩ := look_argEnv hp
    obtain ⟨v, hv, hr⟩ := hA.at_ j p hj
    have hlt : j < vals.length := (List.getElem?_eq_some_iff.1 hv).1
    have hx : (vals.toArray ++ Array.replicate (fn.ntmps - vals.toArray.size) undef).getD (0 + j) undef = v := by
      rw [Nat.zero_add, Array.getD_eq_getD_getElem?, Array.getElem?_append_left (by simpa using hlt)]
      simp [hv]
    rw [hx]; exact hr
  · rw [hN]; simp; omega

/-- Back before any range. -/
theorem raw_ret {C0 : Cx} {fn : Func} {R : SP → List Ent → Prop} {e : Exit} {env : Env} {loc : List Ent} (hd : C0.dfs = []) (h : retP C0 fn R e env loc) : rawP C0 (retT C0 fn R) e env loc := by
  intro F a w hR
  obtain ⟨F', v, p, loc', h1, h2, h3, h4, h5, h6⟩ := h.2 F a w hR
  have hdf : a.defers = [] := hR.defers.trans hd
  have hpost : fnR C0 R (.returned v) w := ⟨v, F', p, loc', rfl, h2, h3, h4, hR.ch, h5, h6⟩
  rcases h.1 with rfl | rfl
  · show LeavesInM _ _ _ _ _ _ a.defers _ _
    rw [hdf]; exact ⟨v, h1, hpost⟩
  · show LeavesInM _ _ _ _ _ _ a.defers _ _
    rw [hdf]; exact ⟨v, h1, hpost⟩

/-- Back behind a range: the mark is taken. -/
theorem raw_ret1 {C0 : Cx} {D : Nat} {fn : Func} {R : SP → List Ent → Prop} {e : Exit} {env : Env} {loc : List Ent} (hd : C0.dfs = []) (hD : C0.w0.heap.size ≤ D) (h : retP C0 fn R e env loc) : rawP (C0.mark D) (retT C0 fn R) e env loc := by
  intro F a w hR
  have hG : Good F (loc ++ (markE D :: C0.out)) w := hR.good
  have hp : (loc ++ (markE D :: C0.out)).Perm (markE D :: (loc ++ C0.out)) := List.perm_middle
  have hG2 := hG.perm hp
  have hm : w.heap[D]? = some (.deferred (some [])) := hG2.rel _ List.mem_cons_self
  have hltD := hG2.lt _ List.mem_cons_self D (by simp [markE])
  have hoth : ∀ b, b ≠ D → (w.putObj D (.deferred none)).heap[b]? = w.heap[b]? := fun b hb => World.putObj_heap_other hb
  have hkeep : ∀ b, F b → b < w.heap.size → F b ∧ (w.putObj D (.deferred none)).heap[b]? = w.heap[b]? := fun b hb _ => ⟨hb, hoth b fun e' => hltD.2 (e' ▸ hb)⟩
  have hG3 : Good F (loc ++ C0.out) (w.putObj D (.deferred none)) := by
    have hpw := List.pairwise_cons.1 hG2.disj
    refine ⟨fun x hx => x.mono (hG2.rel x (List.mem_cons_of_mem _ hx)) hkeep fun b hb => hoth b fun e' => hpw.1 x hx D (by simp [markE]) (e' ▸ hb), fun x hx b hb => ?_, hpw.2⟩
    rw [World.putObj_size]; exact hG2.lt x (List.mem_cons_of_mem _ hx) b hb
  have hR2 : Rel C0 F env loc { a with defers := [] } (w.putObj D (.deferred none)) := by
    refine ⟨hG3, fun t p hp => p.mono (hR.env t p hp) hkeep, hR.size, hd.symm, ?_, hR.own, hR.grow⟩
    exact hR.ch.trans (Ch.put (X := fun b => b = D) rfl) (fun _ _ h => h) fun b hb e' => by have hb' : b < C0.w0.heap.size := hb; omega
  obtain ⟨F', v, p, loc', h1, h2, h3, h4, h5, h6⟩ := h.2 F _ _ hR2
  have hpost : fnR C0 R (.returned v) (w.putObj D (.deferred none)) := ⟨v, F', p, loc', rfl, h2, h3, h4, hR2.ch, h5, h6⟩
  have hdf : a.defers = [{ target := .collected D, args := #[] }] := by rw [hR.defers]; show _ :: C0.dfs = _; rw [hd]
  have key : LeavesInM Fence.wide 5 C0.P fn a.tmps (fnR C0 R) a.defers .returning w := by
    rw [hdf]
    exact ⟨by simp, .inl ⟨D, _, rfl, run_takeDeferred hm, ⟨v, h1, hpost⟩⟩⟩
  rcases h.1 with rfl | rfl <;> exact key

theorem at_range {C : Cx} {id : Nat} {g : Operand} {ps : Array Tmp} {assign body : Code} {T : Exit → Act → World → Prop} {env : Env} {loc : List Ent} (h : WPR C (.block id (.rangeFunc g ps assign body)) T env loc) : WPR C (.block id (.rangeFunc g ps assign body)) T env loc := h
theorem WPR_deep {C : Cx} {id : Nat} {g : Operand} {ps : Array Tmp} {x assign body z : Code} {T : Exit → Act → World → Prop} {env : Env} {loc : List Ent} (h : WPR C (.seq x (.block id (.rangeFunc g ps assign body))) (Exit.then (z.wp C.P T) T) env loc) : WPR C (.seq (.seq x (.block id (.rangeFunc g ps assign body))) z) T env loc := ⟨fun F a w hR => wp_seq (h.out F a w hR)⟩
theorem raw_next {C : Cx} {C' : Cx} {z : Code} {T : Exit → Act → World → Prop} {env : Env} {loc : List Ent} (hP : C'.P = C.P) (h : WPR C' z T env loc) : rawP C' (Exit.then (z.wp C.P T) T) .normal env loc := fun F a w hR => by
  show z.wp C.P T a w
  rw [← hP]; exact h.out F a w hR

/-- The slots of a round. -/
def putE (env : Env) : List Tmp → List SP → Env
  | t :: ts, p :: ps => putE ((t, p) :: env) ts ps
  | _, _ => env

theorem Rel.puts {C : Cx} {F : Nat → Prop} {loc : List Ent} {w : World} : ∀ {ts : List Tmp} {ps : List SP} {vs : List Value} {env : Env} {tm : Array Value}, Rel C F env loc { tmps := tm, defers := [] } w → CellsR F w ps vs → ts.length = ps.length → (∀ t ∈ ts, Nat.blt t C.N = true) → Rel C F (putE env ts ps) loc { tmps := (ts.zip vs).foldl (fun t (p, v) => t.setIfInBounds p v) tm, defers := [] } w
  | [], [], vs, env, tm, h, hc, _, _ => by
    have : vs = [] := List.eq_nil_of_length_eq_zero hc.len
    subst this; exact h
  | t :: ts, p :: ps, [], env, tm, h, hc, _, _ => by have := hc.len; simp at this
  | t :: ts, p :: ps, v :: vs, env, tm, h, hc, hl, hN => by
    obtain ⟨u, h1, h2⟩ := hc.at_ 0 p rfl
    simp at h1; subst h1
    have h3 := h.put (hN t List.mem_cons_self) h2
    exact Rel.puts (ts := ts) (ps := ps) (vs := vs) h3 ⟨by have := hc.len; simpa using this, fun i q hq => by have := hc.at_ (i + 1) q (by simpa using hq); simpa using this⟩ (by simpa using hl) fun t ht => hN t (List.mem_cons_of_mem _ ht)
  | [], _ :: _, _, _, _, _, _, hl, _ => by simp at hl
  | _ :: _, [], _, _, _, _, _, hl, _ => by simp at hl

/-- **for .. := range g { .. }**, whose rounds all go on. -/
theorem WPR_range {α : Type} {C : Cx} {id : Nat} {g : Operand} {ps : Array Tmp} {assign body : Code} {T : Exit → Act → World → Prop} {env : Env} {bl l2 : List Ent} {gf : FuncId} {fng : Func} {cg : Code} {lb : List SP} {encs : α → List SP} (xs : List α) (St : List α → List Ent → Prop) (envA : α → Env → Env)
    (hg : ev env g = some (clo gf lb)) (hf : C.P.funcs[gf]? = some fng) (hbd : fng.body = some cg) (hname : (fng.name == "runtime.NumGoroutine") = false) (hgen : GenC C.P gf lb encs xs) (hps : ∀ x, (encs x).length = ps.size) (hN : ∀ t ∈ ps.toList, Nat.blt t C.N = true) (hS0 : St [] bl)
    (hround : ∀ (Cb : Cx) l m pre x inn, Cb.P = C.P → Cb.N = C.N → (pre ++ [x]) <+: xs → St pre inn → WPC Cb (Fence.wide.inRound l) m assign (fun e env1 loc1 => e = .normal ∧ env1 = envA x (putE env ps.toList (encs x)) ∧ loc1 = inn) (putE env ps.toList (encs x)) inn)
    (hbody : ∀ (Cb : Cx) l m pre x inn, Cb.P = C.P → Cb.N = C.N → (pre ++ [x]) <+: xs → St pre inn → WPC Cb (Fence.wide.inRound l) m body (fun e _ loc' => e = .normal ∧ St (pre ++ [x]) loc') (envA x (putE env ps.toList (encs x))) inn)
    (hrest : ∀ D bl', C.w0.heap.size ≤ D → St xs bl' → rawP (C.mark D) T .normal env (bl' ++ l2)) : WPR C (.block id (.rangeFunc g ps assign body)) T env (bl ++ l2) := by
  constructor
  intro F a w hR
  refine wp_block ((wpIn_wide (n := 5)).1 (wpIn_rangeFunc fun fn _ => ?_))
  obtain ⟨rec, hrec⟩ : ∃ rec : LoopState → Loop, rec = fun st => { state := st, pending := none, fn, tmps := a.tmps, params := ps, assign, body, defers := w.heap.size } := ⟨_, rfl⟩
  obtain ⟨vs, hgv, hlb⟩ : ∃ vs : List Value, a.eval g = .func (.func gf) #[] vs.toArray ∧ CellsR F w lb vs := ev_eval hR hg
  have eg : ∀ args w, (callFunc gf args).run C.P w = .ok (.enter gf args) w := fun args w => by
    have h9 : ¬ fng.name = "runtime.NumGoroutine" := by simpa using hname
    simp [callFunc, hf, hbd, h9, go_sem]
  obtain ⟨Wm, hWm⟩ : ∃ Wm, w.alloc (.deferred (some [])) = Wm := ⟨_, rfl⟩
  obtain ⟨W1, hW1⟩ : ∃ W1, Wm.alloc (.loop (rec .ready)) = W1 := ⟨_, rfl⟩
  have sm : Wm.heap.size = w.heap.size + 1 := by rw [← hWm]; simp
  have s1 : W1.heap.size = w.heap.size + 1 + 1 := by rw [← hW1]; simp [sm]
  -- what is readable as the loop begins: no more than lies there
  have hG0 : Good (fun k => F k ∧ k < w.heap.size) ((bl ++ l2) ++ C.out) w := hR.good.weak
  have hG1 : Good (fun k => F k ∧ k < w.heap.size) (markE w.heap.size :: ((bl ++ l2) ++ C.out)) Wm := by
    rw [← hWm]; exact hG0.lay (fun _ h => h.2) rfl (by show (w.alloc _).heap[w.heap.size]? = _; exact World.alloc_heap_new w _)
  have hk1 : ∀ b, b < w.heap.size → W1.heap[b]? = w.heap[b]? := fun b hb => by
    rw [← hW1, Below.heap_alloc _ _ _ (by omega), ← hWm, Below.heap_alloc _ _ _ hb]
  have hG2 : Good (fun k => F k ∧ k < w.heap.size) (loopE (w.heap.size + 1) (rec .ready) (fun k => F k ∧ k < w.heap.size) w :: markE w.heap.size :: ((bl ++ l2) ++ C.out)) W1 := by
    have h := hG1.lay (e := loopE (w.heap.size + 1) (rec .ready) (fun k => F k ∧ k < w.heap.size) w) (o := .loop (rec .ready)) (fun _ h => by omega) (by rw [sm]; rfl) ⟨by rw [← sm]; exact World.alloc_heap_new Wm _, fun b hb hl => ⟨hb, by rw [hW1]; exact hk1 b hl⟩⟩
    rw [hW1] at h; exact h
  have hcall := hgen (w.heap.size + 1) (fun pre inn => ∃ b0, inn = loopE (w.heap.size + 1) (rec .ready) (fun k => F k ∧ k < w.heap.size) w :: b0 ∧ St pre b0) (loopE (w.heap.size + 1) (rec .ready) (fun k => F k ∧ k < w.heap.size) w :: bl) ⟨bl, rfl, hS0⟩ ?_
    (fun k => F k ∧ k < w.heap.size) W1 (.func (.yield (w.heap.size + 1)) #[] #[] :: vs) (markE w.heap.size :: (l2 ++ C.out)) (hG2.perm ?_) (.cons rfl (hlb.mono fun b hb hl => ⟨⟨hb, hl⟩, hk1 b hl⟩))
  · refine ⟨w.heap.size + 1, [{ target := .collected w.heap.size, args := #[] }], W1, { target := .fn (.func gf) vs.toArray, args := #[.func (.yield (w.heap.size + 1)) #[] #[]] }, W1, gf, #[.func (.yield (w.heap.size + 1)) #[] #[]] ++ vs.toArray, W1, ?_, ?_, fun _ _ => trivial, ?_, by simp [Fence.wide], ?_⟩
    · rw [← hW1, ← hWm, hrec]; exact run_enterLoop_outer _ _ _ _ _
    · simp only [resolve, hgv]
      simp [go_sem]
    · simp [invoke, go_sem, eg]
    · have e1 : (#[.func (.yield (w.heap.size + 1)) #[] #[]] ++ vs.toArray : Array Value) = (.func (.yield (w.heap.size + 1)) #[] #[] :: vs).toArray := by simp
      rw [e1]
      refine callsIn_wide.2 (hcall.mono ?_)
      rintro e w3 ⟨v, F3, p, loc3, rfl, ⟨bl', rfl, hS⟩, _, hG3, hch, hgr, hown⟩
      have hl3 := (hG3.rel _ (List.mem_cons_self)).1
      obtain ⟨o4, hrun⟩ : ∃ o4, (Instr.endLoop (w.heap.size + 1)).run C.P w3 = .ok none (w3.putObj (w.heap.size + 1) o4) := ⟨_, by have := run_endLoop (P := C.P) hl3 (by rw [hrec]; simp); rw [show (rec .ready).pending = none by rw [hrec]] at this; exact this⟩
      refine ⟨none, _, hrun, ?_⟩
      -- behind the loop
      have hlt3 := hG3.lt _ List.mem_cons_self (w.heap.size + 1) (by simp [loopE])
      have hpw := List.pairwise_cons.1 hG3.disj
      have hoth : ∀ b, b ≠ w.heap.size + 1 → (w3.putObj (w.heap.size + 1) o4).heap[b]? = w3.heap[b]? := fun b hb => World.putObj_heap_other hb
      have hkeep : ∀ b, F3 b → b < w3.heap.size → F3 b ∧ (w3.putObj (w.heap.size + 1) o4).heap[b]? = w3.heap[b]? := fun b hb _ => ⟨hb, hoth b fun e' => hlt3.2 (e' ▸ hb)⟩
      have hG4 : Good F3 (bl' ++ (markE w.heap.size :: (l2 ++ C.out))) (w3.putObj (w.heap.size + 1) o4) := by
        refine ⟨fun x hx => x.mono (hG3.rel x (List.mem_cons_of_mem _ hx)) hkeep fun b hb => hoth b fun e' => hpw.1 x hx _ (by simp [loopE]) (e' ▸ hb), fun x hx b hb => ?_, hpw.2⟩
        rw [World.putObj_size]; exact hG3.lt x (List.mem_cons_of_mem _ hx) b hb
      have hDw : C.w0.heap.size ≤ w.heap.size := hR.ch.size
      refine hrest w.heap.size bl' hDw hS F3 _ _ ⟨?_, fun t p hp => p.mono (hR.env t p hp) fun b hb hl => ?_, hR.size, by show _ ++ a.defers = _; rw [hR.defers]; rfl, ?_, fun e he b hb => ?_, fun b hb hl => ?_⟩
      · refine hG4.perm ?_
        show (bl' ++ (markE w.heap.size :: (l2 ++ C.out))).Perm ((bl' ++ l2) ++ (markE w.heap.size :: C.out))
        rw [List.append_assoc]
        exact List.Perm.append_left _ (List.perm_middle.symm)
      · have h1 := hgr b ⟨hb, hl⟩ (by omega)
        refine ⟨h1, (hkeep b h1 ?_).2.trans ((hch.block b (by omega) ?_).trans (hk1 b hl))⟩
        · have := hch.size; omega
        · rintro ⟨e, he, hbe⟩
          rcases List.mem_cons.1 he with rfl | he
          · simp [loopE] at hbe; omega
          · exact (hR.good.lt e (List.mem_append_left _ (List.mem_append_left _ he)) b hbe).2 hb
      · have c1 : Ch C.X w W1 := ⟨by rw [← hW1, ← hWm]; rfl, by rw [← hW1, ← hWm]; rfl, by rw [← hW1, ← hWm]; rfl, by omega, fun k hk _ => hk1 k hk⟩
        refine ((hR.ch.trans c1 (fun _ _ h => h) fun _ _ h => h).trans hch (fun _ _ h => h) ?_).trans (Ch.put (X := fun b => b = w.heap.size + 1) rfl) (fun _ _ h => h) fun b hb e' => ?_
        · rintro b hb ⟨e, he, hbe⟩
          rcases List.mem_cons.1 he with rfl | he
          · simp [loopE] at hbe
            have hb' : b < C.w0.heap.size := hb
            omega
          · exact (hR.own e (List.mem_append_left _ he) b hbe).elim (fun h => absurd hb (by show ¬ b < C.w0.heap.size; omega)) (fun h => h)
        · have hb' : b < C.w0.heap.size := hb
          omega
      · rcases List.mem_append.1 he with he | he
        · rcases hown e (List.mem_cons_of_mem _ he) b hb with h | ⟨e', he', hbe⟩
          · exact .inl (by show C.w0.heap.size ≤ b; omega)
          · rcases List.mem_cons.1 he' with rfl | he'
            · simp [loopE] at hbe
              exact .inl (by show C.w0.heap.size ≤ b; omega)
            · exact hR.own e' (List.mem_append_left _ he') b hbe
        · exact hR.own e (List.mem_append_right _ he) b hb
      · have hl' : b < C.w0.heap.size := hl
        exact hgr b ⟨hR.grow b hb hl, by omega⟩ (by omega)
  · -- one round
    rintro pre x hpre m F1 W vals inn out1 ⟨b0, rfl, hS⟩ hG hcv
    obtain ⟨hl, hbase⟩ := hG.rel _ List.mem_cons_self
    have hlen : vals.length = ps.size := hcv.len.trans (hps x)
    have hy := run_yield (P := C.P) (args := vals.toArray) hl (by rw [hrec]; simpa using hlen)
    rw [show (rec .ready).fn = fn by rw [hrec], show (rec .ready).params = ps by rw [hrec], show (rec .ready).tmps = a.tmps by rw [hrec], show (rec .ready).assign = assign by rw [hrec], show (rec .ready).body = body by rw [hrec]] at hy
    refine ⟨fn, _, assign, body, hy, roundIn_of_wpIn trivial ?_⟩
    clear hy
    have hmid : ∀ {G : Nat → Prop} {e : Ent} {L : List Ent} {V : World}, Good G (e :: (L ++ out1)) V → Good G (L ++ (e :: out1)) V := fun h => h.perm List.perm_middle.symm
    have hmid2 : ∀ {G : Nat → Prop} {e : Ent} {L : List Ent} {V : World}, Good G (L ++ (e :: out1)) V → Good G (e :: (L ++ out1)) V := fun h => h.perm List.perm_middle
    have hR0 : Rel ⟨C.P, W, F1, footX b0, loopE (w.heap.size + 1) (rec .ready) (fun k => F k ∧ k < w.heap.size) w :: out1, C.N, []⟩ F1 env b0 { tmps := a.tmps, defers := [] } W := by
      refine ⟨hmid hG, fun t p hp => p.mono (hR.env t p hp) fun b hb hlt => hbase b ⟨hb, hlt⟩ hlt, hR.size, rfl, Ch.refl _ _, fun e he b hb => .inr ⟨e, he, hb⟩, fun b hb _ => hb⟩
    have hRx := Rel.puts (ts := ps.toList) hR0 hcv (by rw [hps x]; simp) hN
    have htm : (ps.zip vals.toArray).foldl (fun t (p, v) => t.setIfInBounds p v) a.tmps = (ps.toList.zip vals).foldl (fun t (p, v) => t.setIfInBounds p v) a.tmps := by
      rw [← Array.foldl_toList]; simp
    rw [htm]
    have hx1 := (hround ⟨C.P, W, F1, footX b0, loopE (w.heap.size + 1) (rec .ready) (fun k => F k ∧ k < w.heap.size) w :: out1, C.N, []⟩ (w.heap.size + 1) m pre x b0 rfl rfl hpre hS).out F1 _ W hRx
    refine wpIn_mono hx1 ?_
    rintro e a1 w1 ⟨F2, env1, loc1, hR1, rfl, rfl, rfl⟩
    have hG1' := hmid2 hR1.good
    have hl1 := (hG1'.rel _ List.mem_cons_self).1
    refine ⟨_, run_beginRound hl1 (by rw [hrec]), ?_⟩
    obtain ⟨o2, ho2⟩ : ∃ o, o = Obj.loop { rec .ready with state := .busy } := ⟨_, rfl⟩
    rw [← ho2]
    have hlt1 := hG1'.lt _ List.mem_cons_self (w.heap.size + 1) (by simp [loopE])
    have hoth1 : ∀ b, b ≠ w.heap.size + 1 → (w1.putObj (w.heap.size + 1) o2).heap[b]? = w1.heap[b]? := fun b hb => World.putObj_heap_other hb
    have hkeep1 : ∀ b, F2 b → b < w1.heap.size → F2 b ∧ (w1.putObj (w.heap.size + 1) o2).heap[b]? = w1.heap[b]? := fun b hb _ => ⟨hb, hoth1 b fun e' => hlt1.2 (e' ▸ hb)⟩
    have hbase1 := (hG1'.rel _ List.mem_cons_self).2
    have hG2' : Good F2 (loopE (w.heap.size + 1) { rec .ready with state := .busy } (fun k => F k ∧ k < w.heap.size) w :: (loc1 ++ out1)) (w1.putObj (w.heap.size + 1) o2) :=
      hG1'.put rfl rfl fun ho hn => ⟨by rw [hn, ho2], fun b hb hlt => ⟨(hbase1 b hb hlt).1, by rw [ho b (by omega)]; exact (hbase1 b hb hlt).2⟩⟩
    have hR2 : Rel ⟨C.P, w1.putObj (w.heap.size + 1) o2, F2, footX loc1, loopE (w.heap.size + 1) { rec .ready with state := .busy } (fun k => F k ∧ k < w.heap.size) w :: out1, C.N, []⟩ F2 (envA x (putE env ps.toList (encs x))) loc1 a1 (w1.putObj (w.heap.size + 1) o2) :=
      ⟨hmid hG2', fun t p hp => p.mono (hR1.env t p hp) hkeep1, hR1.size, hR1.defers, Ch.refl _ _, fun e he b hb => .inr ⟨e, he, hb⟩, fun b hb _ => hb⟩
    have hx2 := (hbody ⟨C.P, w1.putObj (w.heap.size + 1) o2, F2, footX loc1, loopE (w.heap.size + 1) { rec .ready with state := .busy } (fun k => F k ∧ k < w.heap.size) w :: out1, C.N, []⟩ (w.heap.size + 1) m pre x loc1 rfl rfl hpre hS).out F2 a1 _ hR2
    refine wpIn_mono hx2 ?_
    rintro e a3 w3 ⟨F3, env3, loc3, hR3, rfl, hS3⟩
    have hG3' := hmid2 hR3.good
    have hl3 := (hG3'.rel _ List.mem_cons_self).1
    have hbase3 := (hG3'.rel _ List.mem_cons_self).2
    have hend := run_endRound (P := C.P) none hl3
    obtain ⟨o3, ho3⟩ : ∃ o, o = Obj.loop (rec .ready) := ⟨_, rfl⟩
    have ho3' : Obj.loop { { rec .ready with state := .busy } with state := if (none : Option Code).isNone then .ready else .done, pending := none } = o3 := by rw [ho3, hrec]; rfl
    rw [ho3'] at hend
    refine ⟨_, _, hend, rfl, F3, loopE (w.heap.size + 1) (rec .ready) (fun k => F k ∧ k < w.heap.size) w :: loc3, ⟨loc3, rfl, hS3⟩, ?_, ?_, ?_, ?_⟩
    · exact hG3'.put rfl rfl fun ho hn => ⟨by rw [hn, ho3], fun b hb hlt => ⟨(hbase3 b hb hlt).1, by rw [ho b (by omega)]; exact (hbase3 b hb hlt).2⟩⟩
    · have hmem : footX (loopE (w.heap.size + 1) (rec .ready) (fun k => F k ∧ k < w.heap.size) w :: loc1) (w.heap.size + 1) := ⟨_, List.mem_cons_self, by simp [loopE]⟩
      have hup : ∀ n, footX loc1 n → footX (loopE (w.heap.size + 1) (rec .ready) (fun k => F k ∧ k < w.heap.size) w :: loc1) n := fun n ⟨e, he, hb⟩ => ⟨e, List.mem_cons_of_mem _ he, hb⟩
      have c1 : Ch (footX loc1) W w1 := hR1.ch
      have c3 : Ch (footX loc1) (w1.putObj (w.heap.size + 1) o2) w3 := hR3.ch
      exact ((c1.trans (Ch.put (X := footX (loopE (w.heap.size + 1) (rec .ready) (fun k => F k ∧ k < w.heap.size) w :: loc1)) (o := o2) hmem) (fun n _ h => hup n h) fun n _ h => h).trans c3 (fun n _ h => h) fun n _ h => hup n h).trans (Ch.put (X := footX (loopE (w.heap.size + 1) (rec .ready) (fun k => F k ∧ k < w.heap.size) w :: loc1)) hmem) (fun n _ h => h) fun n _ h => h
    · intro b hb hlt
      have c1 : Ch (footX loc1) W w1 := hR1.ch
      exact hR3.grow b (hR1.grow b hb hlt) (by show b < (w1.putObj _ o2).heap.size; rw [World.putObj_size]; have := c1.size; omega)
    · intro e he b hb
      rcases List.mem_cons.1 he with rfl | he
      · exact .inr ⟨_, List.mem_cons_self, hb⟩
      · rcases hR3.own e he b hb with h | ⟨e', he', hb'⟩
        · have c1 : Ch (footX loc1) W w1 := hR1.ch
          have h' : (w1.putObj (w.heap.size + 1) o2).heap.size ≤ b := h
          rw [World.putObj_size] at h'
          exact .inl (Nat.le_trans c1.size h')
        · exact .inr ⟨e', List.mem_cons_of_mem _ he', hb'⟩
  · show (loopE (w.heap.size + 1) (rec .ready) (fun k => F k ∧ k < w.heap.size) w :: markE w.heap.size :: ((bl ++ l2) ++ C.out)).Perm ((loopE (w.heap.size + 1) (rec .ready) (fun k => F k ∧ k < w.heap.size) w :: bl) ++ (markE w.heap.size :: (l2 ++ C.out)))
    rw [List.append_assoc]
    exact List.Perm.cons _ List.perm_middle.symm

theorem at_region (id : Nat) {C : Cx} {ops : Array Oper} {dr : Bool} {Q : Post} {env : Env} {loc : List Ent} (h : WP C (.region id ops dr) Q env loc) : WP C (.region id ops dr) Q env loc := h

end Go.Fr

/- A growing row that a cell of a struct holds is owned no more. No program in sight. -/
namespace Go.Fr
open Go.RowKit Go.Kx

theorem Rel.turn {C : Cx} {F : Nat → Prop} {env : Env} {loc : List Ent} {a : Act} {w : World} {k : Nat} {e e' : Ent} (hR : Rel C F env loc a w) (he : loc[k]? = some e) (hf : ∀ b, b ∈ e'.foot → b ∈ e.foot) (hr : e'.rel F w) : Rel C F env (loc.set k e') a w := by
  have hk : k < loc.length := (List.getElem?_eq_some_iff.1 he).1
  have hset : loc.set k e' ++ C.out = (loc ++ C.out).set k e' := by rw [List.set_append_left _ _ hk]
  have hmem : e ∈ loc ++ C.out := List.mem_append_left _ (List.mem_of_getElem? he)
  refine ⟨⟨?_, ?_, ?_⟩, hR.env, hR.size, hR.defers, hR.ch, ?_, hR.grow⟩
  · rw [hset]; intro x hx
    rcases List.mem_or_eq_of_mem_set hx with h | rfl
    · exact hR.good.rel x h
    · exact hr
  · rw [hset]; intro x hx b hb
    rcases List.mem_or_eq_of_mem_set hx with h | rfl
    · exact hR.good.lt x h b hb
    · exact hR.good.lt e hmem b (hf b hb)
  · rw [hset, List.pairwise_iff_getElem]
    intro i j hi hj hij b hb hb'
    rw [List.getElem_set] at hb hb'
    have hi2 : i < (loc ++ C.out).length := by simpa using hi
    have hj2 : j < (loc ++ C.out).length := by simpa using hj
    have hd := List.pairwise_iff_getElem.1 hR.good.disj i j hi2 hj2 hij
    have hek : (loc ++ C.out)[k]'(by rw [List.length_append]; omega) = e := by rw [List.getElem_append_left hk]; exact (List.getElem?_eq_some_iff.1 he).2
    split at hb <;> split at hb'
    · omega
    · rename_i h1 _; subst h1; rw [hek] at hd; exact hd b (hf b hb) hb'
    · rename_i _ h2; subst h2; rw [hek] at hd; exact hd b hb (hf b hb')
    · exact hd b hb hb'
  · intro x hx b hb
    rcases List.mem_or_eq_of_mem_set hx with h | rfl
    · exact hR.own x h b hb
    · exact hR.own e (List.mem_of_getElem? he) b (hf b hb)

theorem Leads_fcell {C : Cx} {env : Env} {loc : List Ent} {j k i T T2 n b tot : Nat} {v : Value} {qs ps : List SP} {α : Type} {E : Enc α} {fs : α → List SP} (l : List α) (hfree : look C.N env = none) (hj : loc[j]? = some (vec v T E.size n qs)) [hE : Fits E fs] (hqs : qs = l.flatMap fs) (hn : l.length = n) (hk : (loc.eraseIdx j)[k]? = some (row b T2 tot ps)) (hi : ps[i]? = some (ex v)) (hf0 : ∀ a, (fs a).length = E.size := by exact fun _ => rfl) (hpos : 0 < E.size := by decide) (hby : n * E.bytes ≤ 140737488355328 := by first | omega | (simp only [eSl, eByte]; omega)) : Leads C env loc env ((loc.eraseIdx j).set k (row b T2 tot (ps.set i (isl E l)))) := by
  intro F a w hR
  have hR1 : Rel { C with N := C.N + 1 } F ((C.N, ex v) :: env) loc { a with tmps := a.tmps.push v } w := by
    refine ⟨hR.good, fun t p hp => ?_, by simp [hR.size], hR.defers, hR.ch, hR.own, hR.grow⟩
    rw [look_cons] at hp
    split at hp
    · rename_i e; cases hp; subst e
      show (a.tmps.push v).getD C.N undef = v
      rw [Array.getD_eq_getD_getElem?, ← hR.size]; simp
    · rename_i hne
      have h := hR.env t p hp
      have e : (a.tmps.push v).getD t undef = a.tmps.getD t undef := by
        rw [Array.getD_eq_getD_getElem?, Array.getD_eq_getD_getElem?, Array.getElem?_push, if_neg (by rw [hR.size]; exact fun e => hne e)]
      show p.rel F w ((a.tmps.push v).getD t undef)
      rw [e]; exact h
  obtain ⟨F', h2⟩ := Leads_fvec (C := { C with N := C.N + 1 }) (t := C.N) l (by rw [look_cons, if_pos rfl]) hj hqs hn hf0 hpos hby F _ w hR1
  have hisl : (isl E l).rel F' w v := by
    have h := h2.env C.N (isl E l) (by rw [look_cons, if_pos rfl])
    have e : (a.tmps.push v).getD C.N undef = v := by rw [Array.getD_eq_getD_getElem?, ← hR.size]; simp
    have h' : (isl E l).rel F' w ((a.tmps.push v).getD C.N undef) := h
    rwa [e] at h'
  have hR3 : Rel C F' env (loc.eraseIdx j) a w := by
    refine ⟨h2.good, fun t p hp => ?_, hR.size, hR.defers, hR.ch, fun e he => hR.own e ((List.eraseIdx_sublist ..).subset he), h2.grow⟩
    have hne : t ≠ C.N := fun e => by subst e; rw [hfree] at hp; cases hp
    have h := h2.env t p (by rw [look_cons, if_neg hne, look_cons, if_neg hne]; exact hp)
    have e : (a.tmps.push v).getD t undef = a.tmps.getD t undef := by
      rw [Array.getD_eq_getD_getElem?, Array.getD_eq_getD_getElem?, Array.getElem?_push, if_neg (by rw [hR.size]; exact hne)]
    have h' : p.rel F' w ((a.tmps.push v).getD t undef) := h
    rwa [e] at h'
  refine ⟨F', hR3.turn hk (fun b' hb => hb) ?_⟩
  obtain ⟨cur, c1, c2, c3⟩ := hR3.good.rel _ (List.mem_append_left _ (List.mem_of_getElem? hk))
  refine ⟨cur, c1, c2, fun m q hq => ?_⟩
  rw [List.getElem?_set] at hq
  split at hq
  · rename_i e
    subst e
    split at hq
    · cases hq
      obtain ⟨u, h4, h5⟩ := c3 i (ex v) hi
      have h5' : u = v := h5
      subst h5'
      exact ⟨u, h4, hisl⟩
    · cases hq
  · exact c3 m q hq

theorem WPI_vv {C : Cx} {Fe : Fence} {m : Nat} {ops : Array Oper} {Q : Post} {l : List Oper} {env : Env} {loc : List Ent} {k T sz n : Nat} {v : Value} {ps : List SP} (he : loc[k]? = some (vec v T sz n ps)) (hn : 0 < n) (h : ∀ b c, v = .slice (some ⟨b, 0, none⟩) n c → WPI C Fe m ops Q l env loc) : WPI C Fe m ops Q l env loc := ⟨fun F a w hR => by obtain ⟨b, c, hv, _, _⟩ := vec_open hR he hn; exact (h b c hv).out F a w hR⟩

/-- A place where a walk is to stop. -/
structure Stop (p : Prop) : Prop where
  out : p
theorem WPR_leads {C : Cx} {c : Code} {T : Exit → Act → World → Prop} {env env' : Env} {loc loc' : List Ent} (hl : Leads C env loc env' loc') (h : WPR C c T env' loc') : WPR C c T env loc := ⟨fun F a w hR => let ⟨F', hR'⟩ := hl F a w hR; h.out F' a w hR'⟩

end Go.Fr

/- More builtins. No program in sight. -/
namespace Go.Fr
open Go.RowKit Go.Kx
section
variable {C : Cx} {S : (Nat → Prop) → World → World → Prop} {env : Env} {loc : List Ent} {dst : Option Tmp} {ty : TypeId} {pos : String} {af : Array Edge} {g : Option (Nat × Bool)}
theorem WT_max3 {x y z : Operand} {ts : Array TypeId} {k k' k'' : IntKind} {m n l : Int} (hx : ev env x = some (exI k m)) (hy : ev env y = some (exI k' n)) (hz : ev env z = some (exI k'' l)) : WT C S ⟨dst, .call ⟨.builtin .max, #[x, y, z], ts⟩, ty, pos, af, g⟩ (exI k (max (max m n) l)) env loc := by
  constructor
  intro F a w hR
  have hvx : a.eval x = .int k m := ev_eval hR hx
  have hvy : a.eval y = .int k' n := ev_eval hR hy
  have hvz : a.eval z = .int k'' l := ev_eval hR hz
  refine ⟨_, rfl, fun w' _ => ?_⟩
  have e1 : max m n = if n > m then n else m := by split <;> omega
  have e2 : ∀ q : Int, max q l = if l > q then l else q := fun q => by split <;> omega
  rw [e1, e2]
  generalize a.eval = ρ at hvx hvy hvz ⊢
  simp [execOp, hvx, hvy, hvz, go_sem]
theorem WT_min {x y : Operand} {ts : Array TypeId} {k k' : IntKind} {m n : Int} (hx : ev env x = some (exI k m)) (hy : ev env y = some (exI k' n)) : WT C S ⟨dst, .call ⟨.builtin .min, #[x, y], ts⟩, ty, pos, af, g⟩ (exI k (min m n)) env loc := by
  constructor
  intro F a w hR
  have hvx : a.eval x = .int k m := ev_eval hR hx
  have hvy : a.eval y = .int k' n := ev_eval hR hy
  refine ⟨_, rfl, fun w' _ => ?_⟩
  have e1 : min m n = if n < m then n else m := by split <;> omega
  rw [e1]
  generalize a.eval = ρ at hvx hvy ⊢
  simp [execOp, hvx, hvy, go_sem]
/-- []byte("..") of a constant text: its row is marked, and nobody writes it any more. -/
theorem WO_ctext {H : Nat → Prop} {K : Env → List Ent → Prop} {d b n c T tot : Nat} {t e : TypeId} {x : Operand} {ps : List SP} (bs : List UInt8) (hx : ev env x = some (ex (.slice (some ⟨b, 0, none⟩) n c))) (he : loc[0]? = some (row b T tot ps)) (hps : ps = bs.map ub) (hn : bs.length = n) (ht : C.P.underlying t = some (.slice e)) (hu : C.P.underlying e = some (.int .u8)) (hc : n ≤ c) (hm : c ≤ maxLen) (hH : ¬ H b) (hk : K ((d, isl eByte bs) :: env) (loc.drop 1)) (hd : Nat.blt d C.N = true := by rfl) (hby : n ≤ 140737488355328 := by omega) : WO C H ⟨some d, .convert t t x, ty, pos, af, g⟩ K env loc := by
  constructor
  intro F a w hR
  match loc, he with
  | e0 :: l2, he =>
  have he0 : e0 = row b T tot ps := by simpa using he
  subst he0
  have hmem : row b T tot ps ∈ (row b T tot ps :: l2) ++ C.out := by simp
  obtain ⟨cur, h1, h2, h3⟩ := hR.good.rel _ hmem
  have hb := hR.good.lt _ hmem b (by simp [row])
  have hv : a.eval x = .slice (some ⟨b, 0, none⟩) n c := ev_eval hR hx
  obtain ⟨w', hw'⟩ : ∃ w', w' = w.freeze ⟨b, cur.size, none⟩ 1 := ⟨_, rfl⟩
  have hsh : w.shape? b = some (T, cur.size) := by unfold World.shape?; rw [h1]
  have hheap : w'.heap = w.heap.modify b fun | .cells c elem (lo, hi) => .cells c elem (if lo == hi then (cur.size, cur.size + 1) else (min lo cur.size, max hi (cur.size + 1))) | o => o := by rw [hw']; unfold World.freeze; rw [if_neg (by decide)]; rfl
  have hother : ∀ k, k ≠ b → w'.heap[k]? = w.heap[k]? := fun k hk => by rw [hheap, Array.getElem?_modify, if_neg (fun e => hk e.symm)]
  have hsame : ∃ fr, w'.heap[b]? = some (.cells cur T fr) := by rw [hheap, Array.getElem?_modify, if_pos rfl, h1]; exact ⟨_, rfl⟩
  obtain ⟨fr, hfr⟩ := hsame
  have hsize : w'.heap.size = w.heap.size := by rw [hheap]; simp
  have hrun : (execOp a.eval ⟨some d, .convert t t x, ty, pos, af, g⟩).run C.P w = .ok (.value (.slice (some ⟨b, 0, none⟩) n c)) w' := by
    generalize a.eval = ρ at hv ⊢
    simp [execOp, hv, go_sem, convert, run_und ht, run_und hu, markStringish, hsh, hw']
  unfold Oper.wp
  rw [hrun]
  have hm' : ∀ k, F k → k < w.heap.size → (F k ∨ k = b) ∧ w'.heap[k]? = w.heap[k]? := fun k hk _ => ⟨.inl hk, hother k fun e => hb.2 (e ▸ hk)⟩
  have hpw := List.pairwise_cons.1 hR.good.disj
  have hdis : ∀ y ∈ l2 ++ C.out, b ∉ y.foot := fun y hy hby => hpw.1 y hy b (by simp [row]) hby
  have hG : Good (fun k => F k ∨ k = b) (l2 ++ C.out) w' := by
    refine ⟨fun y hy => y.mono (hR.good.rel y (List.mem_cons_of_mem _ hy)) hm' fun k hk => hother k fun e => hdis y hy (e ▸ hk), fun y hy k hkk => ⟨by rw [hsize]; exact (hR.good.lt y (List.mem_cons_of_mem _ hy) k hkk).1, ?_⟩, hpw.2⟩
    rintro (h | rfl)
    · exact (hR.good.lt y (List.mem_cons_of_mem _ hy) k hkk).2 h
    · exact hdis y hy hkk
  have hisl : (isl eByte bs).rel (fun k => F k ∨ k = b) w' (.slice (some ⟨b, 0, none⟩) n c) := by
    refine ⟨_, _, _, rfl, hn, hc, hm, by simpa [eByte] using hby, (fun h => by cases h), fun i hi => ⟨b, 0, [.int .u8 (bs[i].toNat : Int)], rfl, .inr rfl, by rw [hsize]; exact hb.1, rfl, fun j hj => ?_, rfl⟩⟩
    have hj0 : j = 0 := by simp [eByte] at hj; omega
    subst hj0
    obtain ⟨v, h4, h5⟩ := h3 i (ub bs[i]) (by rw [hps, List.getElem?_map, List.getElem?_eq_getElem hi]; rfl)
    have h5' : v = .int .u8 (bs[i].toNat : Int) := h5
    simp [World.cell?, hfr, eByte, h4, h5']
  refine ⟨fun k => F k ∨ k = b, _, _, hR.next hG hm' ?_ (fun y hy => hR.own y (List.mem_cons_of_mem _ hy)) hd hisl, by omega, fun k hk _ => .inl hk, fun k hk hFH => hother k ?_, hk⟩
  · refine hR.ch.trans (Y := fun k => k = b) ⟨by rw [hw']; unfold World.freeze; rw [if_neg (by decide)], by rw [hw']; unfold World.freeze; rw [if_neg (by decide)], by rw [hw']; unfold World.freeze; rw [if_neg (by decide)], by omega, fun k _ hk => hother k hk⟩ (fun _ _ h => h) fun k hk e => ?_
    subst e
    exact (hR.own _ List.mem_cons_self k (by simp [row])).elim (fun h => absurd hk (by omega)) id
  · rintro rfl
    exact hFH.elim hb.2 hH
end
instance Nt.min {a b : Int} {i j : Nat} [ha : Nt a i] [hb : Nt b j] : Nt (min a b) (min i j) := ⟨by rw [ha.h, hb.h]; omega⟩
instance Nt.max {a b : Int} {i j : Nat} [ha : Nt a i] [hb : Nt b j] : Nt (max a b) (max i j) := ⟨by rw [ha.h, hb.h]; omega⟩
theorem WPY_leads {C : Cx} {H : Nat → Prop} {n : Nat} {ops : Array Oper} {Q : Post} {fuel : Nat} {listed : Array Bool} {env env' : Env} {loc loc' : List Ent} (hnt : noTail n listed = false) (hl : Leads C env loc env' loc') (h : WPY C H n ops Q fuel listed env' loc') : WPY C H n ops Q fuel listed env loc :=
  ⟨fun F a w hR => let ⟨F', hR'⟩ := hl F a w hR; wpAnyT_free _ _ _ _ hnt (h.out F' a w hR')⟩
theorem WPY_three {C : Cx} {H H1 H2 H3 : Nat → Prop} {n : Nat} {ops : Array Oper} {Q : Post} {fuel : Nat} {listed : Array Bool} {env : Env} {loc : List Ent} {o1 o2 o3 : Oper} (i j k : Nat) (hr : Region.ready .any ops listed = [i, j, k]) (ho1 : ops[i]? = some o1) (hg1 : GuardOn C ops env o1.guard) (hH1 : noTail n (listed.setIfInBounds i true) = true → ∀ b, H b → H1 b) (ho2 : ops[j]? = some o2) (hg2 : GuardOn C ops env o2.guard) (hH2 : noTail n (listed.setIfInBounds j true) = true → ∀ b, H b → H2 b) (ho3 : ops[k]? = some o3) (hg3 : GuardOn C ops env o3.guard) (hH3 : noTail n (listed.setIfInBounds k true) = true → ∀ b, H b → H3 b)
    (h1 : WO C H1 o1 (fun env loc => WPY C H n ops Q fuel (listed.setIfInBounds i true) env loc) env loc) (h2 : WO C H2 o2 (fun env loc => WPY C H n ops Q fuel (listed.setIfInBounds j true) env loc) env loc) (h3 : WO C H3 o3 (fun env loc => WPY C H n ops Q fuel (listed.setIfInBounds k true) env loc) env loc) : WPY C H n ops Q (fuel + 1) listed env loc :=
  WPY_all [i, j, k] hr rfl fun q hq => by
    rcases List.mem_cons.1 hq with rfl | hq
    · exact ⟨o1, ho1, hg1, H1, hH1, h1⟩
    · rcases List.mem_cons.1 hq with rfl | hq
      · exact ⟨o2, ho2, hg2, H2, hH2, h2⟩
      · rw [List.mem_singleton] at hq; subst hq
        exact ⟨o3, ho3, hg3, H3, hH3, h3⟩
theorem blt_h {a b : Nat} (h : Nat.blt a b = true) : Nat.blt a b = true := h
theorem FnC_args {P : Program} {f : FuncId} {args args' : List SP} {inn : List Ent} {R : SP → List Ent → Prop} (h : FnC P f args' inn R) (hi : Ims args args') : FnC P f args inn R := fun F w vals out hG hA => h F w vals out hG (hi.cells hA)
theorem WO_lead' {C : Cx} {ops : Array Oper} {Q : Post} {l : List Oper} {env env' : Env} {loc loc' : List Ent} (hl : Leads C env loc env' loc') (h : WPL C ops Q l env' loc') : WPL C ops Q l env loc := WPL_leads hl h
end Go.Fr
