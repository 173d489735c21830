/- Frame: closures, what they have captured known by what is known of it. No program in sight. -/
import Derived.Test.YtjjjblegnjiaoaaDoorPart3
namespace Go.Fr
open Go.RowKit Go.Kx
/-- A function value that has captured these. -/
def clos (f : Fn) (ps : List SP) : SP where
  rel F w u := ∃ vs : List Value, u = .func f #[] vs.toArray ∧ CellsR F w ps vs
  mono := fun ⟨vs, h1, h2⟩ hk => ⟨vs, h1, h2.mono hk⟩
instance {f : Fn} {ps : List SP} : Sc (clos f ps) := ⟨by rintro F w v ⟨vs, rfl, _⟩; rfl⟩
/-- Captured values of which a slot says more. -/
inductive CapUp (env : Env) : List SP → List SP → Prop
  | nil : CapUp env [] []
  | keep {p : SP} {ps qs : List SP} (h : CapUp env ps qs) : CapUp env (p :: ps) (p :: qs)
  | slot {v : Value} {q : SP} {ps qs : List SP} (t : Nat) (ht : Fr.look t env = some q) (hq : ∀ F w u, q.rel F w u → u = v) (h : CapUp env ps qs) : CapUp env (ex v :: ps) (q :: qs)
section
variable {C : Cx} {S : (Nat → Prop) → World → World → Prop} {H : Nat → Prop} {l0 : List Ent} {env : Env} {loc : List Ent} {d : Nat} {dst : Option Tmp} {ty : TypeId} {pos : String} {af : Array Edge} {g : Option (Nat × Bool)} {K : Env → List Ent → Prop}
theorem CapUp.cells {F : Nat → Prop} {a : Act} {w : World} (hR : Rel C F env loc a w) : ∀ {ps qs : List SP} {vs : List Value}, CapUp env ps qs → CellsR F w ps vs → CellsR F w qs vs
  | _, _, vs, .nil, h => h
  | _, _, vs, .keep (p := p) (ps := ps) (qs := qs) k, h => by
    have hl : vs.length = ps.length + 1 := h.len
    match vs, hl with
    | v :: vs, hl =>
      obtain ⟨u, h1, h2⟩ := h.at_ 0 p rfl
      cases h1
      have ht : CellsR F w ps vs := ⟨by simpa using hl, fun i q hq => h.at_ (i + 1) q hq⟩
      exact .cons h2 (k.cells hR ht)
  | _, _, vs, .slot (v := v0) (q := q) (ps := ps) (qs := qs) t ht hq k, h => by
    have hl : vs.length = ps.length + 1 := h.len
    match vs, hl with
    | v :: vs, hl =>
      obtain ⟨u, h1, h2⟩ := h.at_ 0 (ex v0) rfl
      have hv : v = v0 := by
        have e : v = u := by simpa using h1
        rw [e]; exact h2
      have ht' : CellsR F w ps vs := ⟨by simpa using hl, fun i q hq => h.at_ (i + 1) q hq⟩
      have h3 := hR.env t q ht
      have h4 := hq _ _ _ h3
      rw [h4, ← hv] at h3
      exact .cons h3 (k.cells hR ht')
theorem g_mkfn {fn : Fn} {a b : Array Operand} {p : SP} (h : WT C S ⟨dst, .makeFunc fn a b, ty, pos, af, g⟩ p env loc) : WT C S ⟨dst, .makeFunc fn a b, ty, pos, af, g⟩ p env loc := h
theorem WT_mkclos {fn : Fn} {caps : Array Operand} {ps : List SP} (h : caps.toList.map (ev env) = ps.map some) : WT C S ⟨dst, .makeFunc fn #[] caps, ty, pos, af, g⟩ (clos fn ps) env loc := by
  constructor
  intro F a w hR
  refine ⟨.func fn #[] (caps.toList.map a.eval).toArray, ⟨_, rfl, call_cells hR h⟩, fun w' _ => ?_⟩
  have e : (caps.toList.map a.eval).toArray = caps.map a.eval := by
    apply Array.ext'
    simp
  rw [e]
  generalize a.eval = ρ
  simp [execOp, Instr.makeFunc, go_sem]
/-- A call of a closure. -/
theorem WO_callC {f : FuncId} {fn : Func} {c : Code} {x : Operand} {ps caps : List SP} {xs : Array Operand} {ts : Array TypeId} {args : List SP} {inn rest : List Ent} {R : SP → List Ent → Prop} (hx : ev env x = some (clos (.func f) ps)) (hcap : CapUp env ps caps) (ht : Takes loc inn rest) (hf : C.P.funcs[f]? = some fn) (hbody : fn.body = some c) (hc : FnC C.P f (args ++ caps) inn R) (ha : xs.toList.map (ev env) = args.map some) (hk : ∀ p loc', R p loc' → K ((d, p) :: env) (loc' ++ rest)) (hname : (fn.name == "runtime.NumGoroutine") = false := by rfl) (hd : Nat.blt d C.N = true := by rfl) (hH : ∀ b, H b → ∀ e ∈ inn, b ∉ e.foot := by first | exact fun _ _ e he => absurd he (by simp) | exact fun _ h => absurd h (by rintro ⟨_, h, _⟩; cases h)) : WO C H ⟨some d, .call ⟨.value x, xs, ts⟩, ty, pos, af, g⟩ K env loc := by
  constructor
  intro F a w hR
  have hG0 := ht.good hR.good
  obtain ⟨vs, he, hv⟩ := ev_eval hR hx
  have hcv : CellsR F w (args ++ caps) (xs.toList.map a.eval ++ vs) := (call_cells hR ha).app (hcap.cells hR hv)
  unfold Oper.wp
  rw [run_callv he hf hbody hname]
  refine (hc F w _ _ hG0 hcv).mono ?_
  rintro e2 w' ⟨v, F', p, loc', rfl, hRp, hp, hG, hch, hgr, hown⟩
  refine ⟨F', _, _, hR.calledG ht hp hG hch hgr hown hd, hch.size, hgr, fun b hb hF => hch.block b hb ?_, hk p loc' hRp⟩
  rintro ⟨e', he', h⟩
  rcases hF with hF | hF
  · exact (hG0.lt _ (List.mem_append_left _ he') b h).2 hF
  · exact hH b hF e' he' h
end
end Go.Fr
