/- Writes in slices, structs out of what is frozen, and growing rows in a drawn region. No program in sight. -/
import Derived.Test.YtckcdokfhdckhaaFrame3
namespace Go.Fr
open Go.RowKit Go.Kx
section
variable {C : Cx} {S : (Nat → Prop) → World → World → Prop} {H : Nat → Prop} {env : Env} {loc : List Ent} {dst : Option Tmp} {ty : TypeId} {pos : String} {af : Array Edge} {g : Option (Nat × Bool)}
/-- A write's cells. -/
def wrV (x : Wr) : List SP := [exI .i64 x.at_, isl eByte x.data]
theorem WT_indexW {l : List Wr} {t e : TypeId} {x y : Operand} {k : IntKind} {m : Int} {i bt : Nat} {z : Value} (hx : ev env x = some (isl eWr l)) (hy : ev env y = some (exI k m)) [hm : Nt m i] (ht : C.P.underlying t = some (.slice e)) [hT : TI C.P e 2 bt z] (hl : i < l.length := by first | omega | (simp; done) | (simp; omega)) :
    WT C S ⟨dst, .indexAddr t x y, ty, pos, af, g⟩ (fp [exI .i64 l[i].at_, isl eByte l[i].data]) env loc := by
  constructor
  intro F a w hR
  obtain ⟨ti, hi, hsz, _, _⟩ := hT.out
  obtain ⟨rfl⟩ := hm
  obtain ⟨b0, n, c, hv, hs⟩ := ev_eval hR hx
  have hvy : a.eval y = .int k i := ev_eval hR hy
  obtain ⟨b, off, cs, rfl, h1, h2, h3, h4, h5⟩ := hs.elem i hl
  obtain ⟨oa, n', c', rfl, _, h7⟩ := h5
  have h6 : CellsR F w [exI .i64 l[i].at_, isl eByte l[i].data] [.int .i64 l[i].at_, .slice oa n' c'] := .cons rfl (.cons ⟨oa, n', c', rfl, h7⟩ .nil)
  have hn : i < n := by rw [← hs.length]; exact hl
  refine ⟨.pointer (some ⟨b, off + i * 2, none⟩), ⟨b, _, rfl, h1, h2, fun j p hp => ?_⟩, fun _ _ => ?_⟩
  · obtain ⟨u, h7, h8⟩ := h6.at_ j p hp
    have hj : j < 2 := by have := (List.getElem?_eq_some_iff.1 h7).1; simpa using this
    exact ⟨u, (h4 j hj).trans h7, h8⟩
  · generalize a.eval = ρ at hv hvy ⊢
    simp [execOp, hv, hvy, Instr.indexAt, asIntOf, run_und ht, hn, add_plain, run_siz hi, hsz, go_sem]
/-- A struct that is loaded out of what is frozen, its cells one by one. -/
theorem WT_loadfa2 {qs : List SP} {t : TypeId} {x : Operand} {ps : List SP} {d : TypeDesc} {sz bt : Nat} {z : Value} (hx : ev env x = some (fp ps)) (hu : C.P.underlying t = some d) [hT : TI C.P t sz bt z] (hd : Desc.aggB d = true := by rfl) (hl : Nat.ble sz ps.length = true := by rfl) (hq : Nf (ps.take sz) qs := by simp only [fillC, putC, Value.cells, List.foldl_cons, List.foldl_nil, List.map_cons, List.map_nil, List.length_cons, List.length_nil, Nat.zero_add, Nat.reduceAdd, List.take_succ_cons, List.take_zero, List.drop_succ_cons, List.drop_zero, List.nil_append, List.cons_append, List.drop_nil, List.take_nil, List.set_cons_zero, List.set_cons_succ]; exact ⟨rfl⟩) :
    WT C (Hold H) ⟨dst, .load t x, ty, pos, af, g⟩ (agg qs) env loc := hq.h ▸ WT_loadfa hx hu hd hl
end
/-- A growing row that is not empty is no nil. -/
theorem WPY_vv {C : Cx} {H : Nat → Prop} {n0 : Nat} {ops : Array Oper} {Q : Post} {fuel : Nat} {listed : Array Bool} {env : Env} {loc : List Ent} {k T sz n : Nat} {v : Value} {ps : List SP} (he : loc[k]? = some (vec v T sz n ps)) (hn : 0 < n) (h : ∀ b c, v = .slice (some ⟨b, 0, none⟩) n c → n ≤ c → c ≤ maxLen → WPY C H n0 ops Q fuel listed env loc) : WPY C H n0 ops Q fuel listed env loc := ⟨fun F a w hR => by obtain ⟨b, c, hv, h1, h2⟩ := vec_open hR he hn; exact (h b c hv h1 h2).out F a w hR⟩
theorem Leads_perm {C : Cx} {env : Env} {loc loc' : List Ent} (hp : loc.Perm loc') : Leads C env loc env loc' := fun F a w hR => ⟨F, hR.good.perm (hp.append_right _), hR.env, hR.size, hR.defers, hR.ch, fun e he => hR.own e (hp.mem_iff.2 he), hR.grow⟩
theorem putC_set {α : Type} (f : α → SP) (l : List α) (i : Nat) (x : α) (h : i < l.length) : putC (l.map f) i [f x] = (l.set i x).map f := by
  unfold putC
  rw [List.map_set, List.set_eq_take_append_cons_drop, if_pos (by simpa using h)]
  simp
theorem putC_then {α : Type} (f : α → SP) (l : List α) (i : Nat) (p : SP) (y : α) (h : i < l.length) : (putC (l.map f) i [p]).set i (f y) = (l.set i y).map f := by
  have hl : i + [p].length ≤ (l.map f).length := by simp; omega
  have hln : (putC (l.map f) i [p]).length = l.length := by rw [putC_length hl]; simp
  rw [List.map_set]
  apply List.ext_getElem?
  intro j
  rw [List.getElem?_set, putC_get hl, List.getElem?_set, hln, List.length_map]
  by_cases hj : i = j
  · subst hj; simp [h]
  · rw [if_neg hj, if_neg hj, if_neg (by simp; omega)]
end Go.Fr
