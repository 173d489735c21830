/- Frame: functions that return or panic, and their calls. No program in sight. -/
import Derived.Test.YtdpabdbeecbnmaaDoorPart3
import Derived.Recover
namespace Go.Fr
open Go.RowKit Go.Kx
/-- A contract with two ends: it returns, or it panics. -/
def FnP (P : Program) (f : FuncId) (args : List SP) (inn : List Ent) (R : SP → List Ent → Prop) (Rp : List PanicEntry → List Ent → Prop) : Prop :=
  ∀ (F : Nat → Prop) (w : World) (vals : List Value) (out : List Ent), Good F (inn ++ out) w → CellsR F w args vals →
    Calls P f vals.toArray w fun e w' => (∃ v F' p loc', e = .returned v ∧ R p loc' ∧ p.rel F' w' v ∧ Good F' (loc' ++ out) w' ∧ Ch (fun b => ∃ e ∈ inn, b ∈ e.foot) w w' ∧ (∀ b, F b → b < w.heap.size → F' b) ∧
      ∀ e ∈ loc', ∀ b ∈ e.foot, w.heap.size ≤ b ∨ ∃ e ∈ inn, b ∈ e.foot) ∨
    (∃ ch F' loc', e = .panicked ch ∧ Rp ch loc' ∧ Good F' (loc' ++ out) w' ∧ Ch (fun b => ∃ e ∈ inn, b ∈ e.foot) w w' ∧ (∀ b, F b → b < w.heap.size → F' b) ∧
      ∀ e ∈ loc', ∀ b ∈ e.foot, w.heap.size ≤ b ∨ ∃ e ∈ inn, b ∈ e.foot)
theorem FnC.toP {P : Program} {f : FuncId} {args : List SP} {inn : List Ent} {R : SP → List Ent → Prop} (Rp : List PanicEntry → List Ent → Prop) (h : FnC P f args inn R) : FnP P f args inn R Rp :=
  fun F w vals out hG hA => (h F w vals out hG hA).mono fun _ _ hx => .inl hx
/-- The ends of a body that may panic. -/
def retPP (C : Cx) (fn : Func) (R : SP → List Ent → Prop) (Rp : List PanicEntry → List Ent → Prop) : Post
  | .normal, env, loc => retP C fn R .normal env loc
  | .ret, env, loc => retP C fn R .ret env loc
  | .panic ch, env, loc => ∀ F a w, Rel C F env loc a w → ∃ F' loc', Rp ch loc' ∧ Good F' (loc' ++ C.out) w ∧ (∀ b, C.F0 b → b < C.w0.heap.size → F' b) ∧ ∀ e ∈ loc', ∀ b ∈ e.foot, C.w0.heap.size ≤ b ∨ C.X b
  | _, _, _ => False
theorem panic_here {C : Cx} {fn : Func} {R : SP → List Ent → Prop} {Rp : List PanicEntry → List Ent → Prop} {ch : List PanicEntry} {env : Env} {loc loc' : List Ent} (hs : loc'.Sublist loc) (h : Rp ch loc') : retPP C fn R Rp (.panic ch) env loc :=
  fun F _ _ hR => ⟨F, loc', h, hR.good.drop hs, hR.grow, fun e he => hR.own e (hs.subset he)⟩
theorem FnP_enter {P : Program} {f : FuncId} {fn : Func} {c : Code} {args : List SP} {inn : List Ent} {R : SP → List Ent → Prop} {Rp : List PanicEntry → List Ent → Prop} {N : Nat} (hf : P.funcs[f]? = some fn) (hb : fn.body = some c) (hN : fn.ntmps = N) (hle : Nat.ble args.length N = true)
    (h : ∀ w0 F0 out, WP ⟨P, w0, F0, footX inn, out, N, []⟩ c (retPP ⟨P, w0, F0, footX inn, out, N, []⟩ fn R Rp) (argEnv 0 args) inn) : FnP P f args inn R Rp := by
  intro F w vals out hG hA
  have hle' : args.length ≤ N := Nat.le_of_ble_eq_true hle
  have hsz : vals.length = args.length := hA.len
  refine calls_of_wp hf hb (Code.wp_mono ?_ ((h w F out).out F _ w ⟨hG, ?_, ?_, rfl, Ch.refl _ _, fun e he b hb => .inr ⟨e, he, hb⟩, fun b hb _ => hb⟩))
  · rintro e a' w' ⟨F', env', loc', hR', hq⟩
    cases e with
    | normal =>
      obtain ⟨F2, v, p, loc2, h1, h2, h3, h4, h5, h6⟩ := hq.2 F' a' w' hR'
      exact bodyPost_end h1 hR'.defers (.inl ⟨v, F2, p, loc2, rfl, h2, h3, h4, hR'.ch, h5, h6⟩)
    | ret =>
      obtain ⟨F2, v, p, loc2, h1, h2, h3, h4, h5, h6⟩ := hq.2 F' a' w' hR'
      exact bodyPost_ret h1 hR'.defers (.inl ⟨v, F2, p, loc2, rfl, h2, h3, h4, hR'.ch, h5, h6⟩)
    | panic ch =>
      obtain ⟨F2, loc2, h2, h4, h5, h6⟩ := hq F' a' w' hR'
      exact ⟨hR'.defers, .inr ⟨ch, F2, loc2, rfl, h2, h4, hR'.ch, h5, h6⟩⟩
    | exit _ => exact hq.elim
    | goto _ => exact hq.elim
    | outgrown => exact hq.elim
  · intro t p hp
    obtain ⟨j, rfl, hj⟩ := look_argEnv hp
    obtain ⟨v, hv, hr⟩ := hA.at_ j p hj
    have hlt : j < vals.length := (List.getElem?_eq_some_iff.1 hv).1
    have hx : (vals.toArray ++ Array.replicate (fn.ntmps - vals.toArray.size) undef).getD (0 + j) undef = v := by
      rw [Nat.zero_add, Array.getD_eq_getD_getElem?, Array.getElem?_append_left (by simpa using hlt)]
      simp [hv]
    rw [hx]; exact hr
  · rw [hN]; simp; omega
section
variable {C : Cx} {env : Env} {loc : List Ent} {d : Nat} {ty : TypeId} {pos : String} {af : Array Edge} {ops : Array Oper} {Q : Post} {rest : List Oper}
theorem Rel.panicG {F F' : Nat → Prop} {a : Act} {w w' : World} {inn suf : List Ent} {loc' : List Ent} (hR : Rel C F env loc a w) (ht : Takes loc inn suf) (hG : Good F' (loc' ++ (suf ++ C.out)) w') (hch : Ch (fun b => ∃ e' ∈ inn, b ∈ e'.foot) w w') (hgr : ∀ b, F b → b < w.heap.size → F' b)
    (hown : ∀ e' ∈ loc', ∀ b ∈ e'.foot, w.heap.size ≤ b ∨ ∃ e' ∈ inn, b ∈ e'.foot) : Rel C F' env (loc' ++ suf) a w' := by
  have hblk : ∀ b, b < w.heap.size → (∀ e ∈ inn, b ∉ e.foot) → w'.heap[b]? = w.heap[b]? := fun b hb hn => hch.block b hb (by rintro ⟨e', he', h⟩; exact hn e' he' h)
  have hG0 := ht.good hR.good
  have hm : ∀ b, F b → b < w.heap.size → F' b ∧ w'.heap[b]? = w.heap[b]? := fun b hb hlt => ⟨hgr b hb hlt, hblk b hlt fun e he h => (hG0.lt e (List.mem_append_left _ he) b h).2 hb⟩
  refine ⟨by rw [List.append_assoc]; exact hG, fun t q hq => q.mono (hR.env t q hq) hm, hR.size, hR.defers, ?_, ?_, fun b hb hlt => (hm b (hR.grow b hb hlt) (Nat.lt_of_lt_of_le hlt hR.ch.size)).1⟩
  · refine ⟨hch.os.trans hR.ch.os, hch.tape.trans hR.ch.tape, hch.output.trans hR.ch.output, Nat.le_trans hR.ch.size hch.size, fun j hj hx => (hblk j (Nat.lt_of_lt_of_le hj hR.ch.size) fun e he h => ?_).trans (hR.ch.block j hj hx)⟩
    obtain ⟨e', h1, h2⟩ := ht.foot e he j h
    rcases hR.own e' h1 j h2 with h | h
    · omega
    · exact hx h
  · intro e' he' b hb
    rcases List.mem_append.1 he' with h | h
    · rcases hown e' h b hb with h | ⟨e2, h2, h3⟩
      · exact .inl (Nat.le_trans hR.ch.size h)
      · obtain ⟨e3, h4, h5⟩ := ht.foot e2 h2 b h3
        exact hR.own e3 h4 b h5
    · exact hR.own e' (ht.rest _ h) b hb
/-- A call that may panic. -/
theorem WPL_callP {f : FuncId} {fn : Func} {c : Code} {xs : Array Operand} {ts : Array TypeId} {args : List SP} {inn suf : List Ent} {R : SP → List Ent → Prop} {Rp : List PanicEntry → List Ent → Prop} (ht : Takes loc inn suf) (hf : C.P.funcs[f]? = some fn) (hbody : fn.body = some c) (hc : FnP C.P f args inn R Rp) (ha : xs.toList.map (ev env) = args.map some)
    (hk : ∀ p loc', R p loc' → WPL C ops Q rest ((d, p) :: env) (loc' ++ suf)) (hp : ∀ ch loc', Rp ch loc' → Q (.panic ch) env (loc' ++ suf)) (hname : (fn.name == "runtime.NumGoroutine") = false := by rfl) (hd : Nat.blt d C.N = true := by rfl) : WPL C ops Q (⟨some d, .call ⟨.value (.func f), xs, ts⟩, ty, pos, af, none⟩ :: rest) env loc := by
  constructor
  intro F a w hR
  refine wpList_plain rfl fun K hK => ?_
  have hG0 := ht.good hR.good
  unfold Oper.wp
  rw [run_call hf hbody hname]
  refine (hc F w _ _ hG0 (call_cells hR ha)).mono ?_
  rintro e2 w' (⟨v, F', p, loc', rfl, hRp, hpr, hG, hch, hgr, hown⟩ | ⟨ch, F', loc', rfl, hRp, hG, hch, hgr, hown⟩)
  · exact hK _ _ ((hk p loc' hRp).out F' _ w' (hR.calledG ht hpr hG hch hgr hown hd))
  · exact ⟨F', env, _, hR.panicG ht hG hch hgr hown, hp ch loc' hRp⟩
/-- A call through a value that may panic. -/
theorem WPL_callvP {f : FuncId} {fn : Func} {c : Code} {x : Operand} {vs : List Value} {caps : List SP} {xs : Array Operand} {ts : Array TypeId} {args : List SP} {inn suf : List Ent} {R : SP → List Ent → Prop} {Rp : List PanicEntry → List Ent → Prop} (hx : ev env x = some (ex (.func (.func f) #[] vs.toArray))) (hcap : CapOk env vs caps) (ht : Takes loc inn suf) (hf : C.P.funcs[f]? = some fn) (hbody : fn.body = some c) (hc : FnP C.P f (args ++ caps) inn R Rp) (ha : xs.toList.map (ev env) = args.map some)
    (hk : ∀ p loc', R p loc' → WPL C ops Q rest ((d, p) :: env) (loc' ++ suf)) (hp : ∀ ch loc', Rp ch loc' → Q (.panic ch) env (loc' ++ suf)) (hname : (fn.name == "runtime.NumGoroutine") = false := by rfl) (hd : Nat.blt d C.N = true := by rfl) : WPL C ops Q (⟨some d, .call ⟨.value x, xs, ts⟩, ty, pos, af, none⟩ :: rest) env loc := by
  constructor
  intro F a w hR
  refine wpList_plain rfl fun K hK => ?_
  have hG0 := ht.good hR.good
  have hcv : CellsR F w (args ++ caps) (xs.toList.map a.eval ++ vs) := (call_cells hR ha).app (hcap.cells hR)
  unfold Oper.wp
  rw [run_callv (ev_eval hR hx) hf hbody hname]
  refine (hc F w _ _ hG0 hcv).mono ?_
  rintro e2 w' (⟨v, F', p, loc', rfl, hRp, hpr, hG, hch, hgr, hown⟩ | ⟨ch, F', loc', rfl, hRp, hG, hch, hgr, hown⟩)
  · exact hK _ _ ((hk p loc' hRp).out F' _ w' (hR.calledG ht hpr hG hch hgr hown hd))
  · exact ⟨F', env, _, hR.panicG ht hG hch hgr hown, hp ch loc' hRp⟩
/-- The text's own panic. -/
theorem WPL_panic {dst : Option Tmp} {x : Operand} {T : TypeId} {v : Value} (hx : ev env x = some (ex (.iface T v))) (hp : Q (.panic [{ v := .iface T v, recovered := false }]) env loc) : WPL C ops Q (⟨dst, .panic x, ty, pos, af, none⟩ :: rest) env loc := by
  constructor
  intro F a w hR
  refine wpList_plain rfl fun K hK => ?_
  have hv := ev_eval hR hx
  unfold Oper.wp
  have hrun : (execOp a.eval ⟨dst, .panic x, ty, pos, af, none⟩).run C.P w = .halt (.panic (.iface T v)) w := by
    have hv : a.eval x = .iface T v := hv
    generalize a.eval = ρ at hv ⊢
    simp [execOp, hv, Instr.panic, go_sem, goPanic]
  rw [hrun]
  exact ⟨F, env, loc, hR, hp⟩
end
end Go.Fr

/- Frame: a function that defers one closure, which may recover. No program in sight. -/
namespace Go.Fr
open Go.RowKit Go.Kx
abbrev retD (C0 : Cx) (fn : Func) (R : SP → List Ent → Prop) : Exit → Act → World → Prop := bodyPostD C0.P fn (fnR C0 R)
theorem FnC_enterD {P : Program} {f : FuncId} {fn : Func} {c : Code} {args : List SP} {inn : List Ent} {R : SP → List Ent → Prop} {N : Nat} (hf : P.funcs[f]? = some fn) (hb : fn.body = some c) (hN : fn.ntmps = N) (hle : Nat.ble args.length N = true)
    (h : ∀ w0 F0 out, WPR ⟨P, w0, F0, footX inn, out, N, []⟩ c (retD ⟨P, w0, F0, footX inn, out, N, []⟩ fn R) (argEnv 0 args) inn) : FnC P f args inn R := by
  intro F w vals out hG hA
  have hle' : args.length ≤ N := Nat.le_of_ble_eq_true hle
  have hsz : vals.length = args.length := hA.len
  refine calls_of_wp_defers hf hb ((h w F out).out F _ w ⟨hG, ?_, ?_, rfl, Ch.refl _ _, fun e he b hb => .inr ⟨e, he, hb⟩, fun b hb _ => hb⟩)
  · intro t p hp
    obtain ⟨j, rfl, hj⟩ := look_argEnv hp
    obtain ⟨v, hv, hr⟩ := hA.at_ j p hj
    have hlt : j < vals.length := (List.getElem?_eq_some_iff.1 hv).1
    have hx : (vals.toArray ++ Array.replicate (fn.ntmps - vals.toArray.size) undef).getD (0 + j) undef = v := by
      rw [Nat.zero_add, Array.getD_eq_getD_getElem?, Array.getElem?_append_left (by simpa using hlt)]
      simp [hv]
    rw [hx]; exact hr
  · rw [hN]; simp; omega
/-- Back before the deferred call is noted. -/
theorem raw_retD0 {C0 : Cx} {fn : Func} {R : SP → List Ent → Prop} {e : Exit} {env : Env} {loc : List Ent} (hd : C0.dfs = []) (h : retP C0 fn R e env loc) : rawP C0 (retD C0 fn R) e env loc := by
  intro F a w hR
  obtain ⟨F', v, p, loc', h1, h2, h3, h4, h5, h6⟩ := h.2 F a w hR
  have hdf : a.defers = [] := hR.defers.trans hd
  have hpost : fnR C0 R (.returned v) w := ⟨v, F', p, loc', rfl, h2, h3, h4, hR.ch, h5, h6⟩
  have key : Leaves C0.P fn a.tmps (fnR C0 R) a.defers .returning w := by rw [hdf]; exact ⟨v, h1, hpost⟩
  rcases h.1 with rfl | rfl <;> exact key
/-- A deferred call of a function: what it does to the frame's mode, and to what is owned. -/
def FnD (P : Program) (f : FuncId) (args : List SP) (inn : List Ent) (u : FrameMode) (R : FrameMode → List Ent → Prop) : Prop :=
  ∀ (F : Nat → Prop) (w : World) (vals : List Value) (out : List Ent), Good F (inn ++ out) w → CellsR F w args vals →
    CallsD P f vals.toArray u w fun e u' w' => ∃ v F' loc', e = .returned v ∧ R u' loc' ∧ Good F' (loc' ++ out) w' ∧ Ch (fun b => ∃ e ∈ inn, b ∈ e.foot) w w' ∧ (∀ b, F b → b < w.heap.size → F' b) ∧
      ∀ e ∈ loc', ∀ b ∈ e.foot, w.heap.size ≤ b ∨ ∃ e ∈ inn, b ∈ e.foot
/-- Code that notes a deferred call of a closure. -/
theorem WPLR_deferF {C : Cx} {ops : Array Oper} {y : Code} {T : Exit → Act → World → Prop} {dst : Option Tmp} {ty : TypeId} {pos : String} {af : Array Edge} {g : Fn} {x : Operand} {ts : Array TypeId} {env : Env} {loc : List Ent} {vs : Array Value} (hx : ev env x = some (ex (.func g #[] vs))) (hk : WPR (C.withD ⟨.fn g vs, #[]⟩) y T env loc) (hdst : dst = none) : WPLR C ops (Exit.then (y.wp C.P T) T) [⟨dst, .defer ⟨.value x, #[], ts⟩, ty, pos, af, none⟩] env loc := by
  subst hdst
  constructor
  intro F a w hR
  unfold wpList
  rw [if_pos (by simp [Region.wanted])]
  refine .inl ?_
  have hv : a.eval x = .func g #[] vs := ev_eval hR hx
  unfold Oper.wp
  have hrun : (execOp a.eval ⟨none, .defer ⟨.value x, #[], ts⟩, ty, pos, af, none⟩).run C.P w = .ok (.defer ⟨.fn g vs, #[]⟩) w := by
    generalize a.eval = ρ at hv ⊢
    simp [execOp, resolve, hv, Deferred.ofValue, go_sem]
  rw [hrun]
  exact hk.out F _ w ⟨hR.good, hR.env, hR.size, by show _ :: a.defers = _ :: C.dfs; rw [hR.defers], hR.ch, hR.own, hR.grow⟩
theorem invoke_fn {P : Program} {f : FuncId} {fn : Func} {c : Code} {vs : Array Value} (hf : P.funcs[f]? = some fn) (hbody : fn.body = some c) (hname : (fn.name == "runtime.NumGoroutine") = false) (w : World) : (invoke (.fn (.func f) vs) #[]).run P w = .ok (.enter f vs) w := by
  have hname' : ¬ fn.name = "runtime.NumGoroutine" := by simpa using hname
  simp [invoke, callFunc, go_sem, hf, hname', hbody]
/-- What mode a frame is in as it leaves. -/
def modeOf : Exit → Option FrameMode
  | .normal | .ret => some .returning
  | .panic ch => some (.panicking ch)
  | _ => none
/-- Back, or in a panic: the deferred closure is called, and the function returns. -/
theorem raw_D {C0 : Cx} {fn : Func} {R : SP → List Ent → Prop} {e : Exit} {env : Env} {loc inn suf : List Ent} {u : FrameMode} {g : FuncId} {gn : Func} {gc : Code} {args : List SP} {vs : List Value} {Rd : FrameMode → List Ent → Prop} (hd : C0.dfs = []) (hu : modeOf e = some u) (ht : Takes loc inn suf) (hf : C0.P.funcs[g]? = some gn) (hbody : gn.body = some gc) (hname : (gn.name == "runtime.NumGoroutine") = false) (hc : FnD C0.P g args inn u Rd) (hcap : CapOk env vs args)
    (hk : ∀ u' loc', Rd u' loc' → settle u' = .returning ∧ retP C0 fn R .ret env (loc' ++ suf)) : rawP (C0.withD ⟨.fn (.func g) vs.toArray, #[]⟩) (retD C0 fn R) e env loc := by
  intro F a w hR
  have hR0 : Rel C0 F env loc { a with defers := [] } w := ⟨hR.good, hR.env, hR.size, hd.symm, hR.ch, hR.own, hR.grow⟩
  have hdf : a.defers = [⟨.fn (.func g) vs.toArray, #[]⟩] := by rw [hR.defers]; show _ :: C0.dfs = _; rw [hd]
  have hG0 : Good F (inn ++ (suf ++ C0.out)) w := ht.good hR0.good
  have hcv : CellsR F w args vs := hcap.cells hR0
  have hrun : u ≠ .run := by
    rintro rfl
    cases e <;> simp [modeOf] at hu
  have key : Leaves C0.P fn a.tmps (fnR C0 R) a.defers u w := by
    rw [hdf]
    refine leaves_cons hrun (invoke_fn hf hbody hname w) ?_
    refine CallsD.mono (hc F w _ _ hG0 hcv) ?_
    rintro e2 u' w' ⟨v, F', loc', rfl, hRd, hG, hch, hgr, hown⟩
    obtain ⟨hs, hret⟩ := hk u' loc' hRd
    have hR2 := hR0.panicG ht hG hch hgr hown
    obtain ⟨F2, v2, p2, loc2, g1, g2, g3, g4, g5, g6⟩ := hret.2 F' _ w' hR2
    show Leaves C0.P fn a.tmps (fnR C0 R) [] (settle u') w'
    rw [hs]
    exact ⟨v2, g1, v2, F2, p2, loc2, rfl, g2, g3, g4, hR2.ch, g5, g6⟩
  cases e with
  | normal => simp only [modeOf, Option.some.injEq] at hu; subst hu; exact key
  | ret => simp only [modeOf, Option.some.injEq] at hu; subst hu; exact key
  | panic ch => simp only [modeOf, Option.some.injEq] at hu; subst hu; exact key
  | exit _ => simp [modeOf] at hu
  | goto _ => simp [modeOf] at hu
  | outgrown => simp [modeOf] at hu
end Go.Fr

/- Frame: interface values: made, told, compared with nil. No program in sight. -/
namespace Go.Fr
open Go.RowKit Go.Kx
def concB : TypeDesc → Bool
  | .interface _ => false
  | _ => true
section
variable {C : Cx} {S : (Nat → Prop) → World → World → Prop} {env : Env} {loc : List Ent} {dst : Option Tmp} {ty : TypeId} {pos : String} {af : Array Edge} {g : Option (Nat × Bool)}
theorem WT_mkif {x : Operand} {T : TypeId} {v : Value} {dd : TypeDesc} (hx : ev env x = some (ex v)) (ht : C.P.underlying T = some dd) (hn : concB dd = true := by rfl) : WT C S ⟨dst, .makeInterface T x, ty, pos, af, g⟩ (ex (.iface T v)) env loc := by
  constructor
  intro F a w hR
  have hv : a.eval x = v := ev_eval hR hx
  refine ⟨_, rfl, fun w' _ => ?_⟩
  generalize a.eval = ρ at hv ⊢
  cases dd <;> first | (cases hn; done) | simp [execOp, Instr.makeInterface, hv, run_und ht, go_sem]
theorem WT_assert {x : Operand} {xT T : TypeId} {v : Value} {dd : TypeDesc} (hx : ev env x = some (ex (.iface T v))) (ht : C.P.underlying T = some dd) (hn : concB dd = true := by rfl) : WT C S ⟨dst, .typeAssert x xT T false, ty, pos, af, g⟩ (ex v) env loc := by
  constructor
  intro F a w hR
  have hv : a.eval x = .iface T v := ev_eval hR hx
  refine ⟨_, rfl, fun w' _ => ?_⟩
  generalize a.eval = ρ at hv ⊢
  cases dd <;> first | (cases hn; done) | simp [execOp, Instr.typeAssert, hv, run_und ht, go_sem]
theorem ba_extract (l : List UInt8) (lo hi : Nat) : (⟨l.toArray⟩ : ByteArray).extract lo hi = ⟨((l.take hi).drop lo).toArray⟩ := by
  apply ByteArray.ext
  rw [ByteArray.data_extract]
  apply Array.ext'
  rw [Array.toList_extract]
  simp [List.extract, List.drop_take]
theorem ba_size (l : List UInt8) : (⟨l.toArray⟩ : ByteArray).size = l.length := by show l.toArray.size = l.length; simp
/-- A part of a string. -/
theorem WT_sslb {l : List UInt8} {t : TypeId} {x y z : Operand} {k k2 : IntKind} {a1 a2 : Int} {lo hi : Nat} (hx : ev env x = some (exT l)) (hy : ev env y = some (exI k a1)) (hz : ev env z = some (exI k2 a2)) [e1 : Nt a1 lo] [e2 : Nt a2 hi] (ht : C.P.underlying t = some .string) (h1 : lo ≤ hi := by first | omega | (simp; done) | (simp; omega)) (h2 : hi ≤ l.length := by first | omega | (simp; done) | (simp; omega)) :
    WT C S ⟨dst, .slice t x (some y) (some z) none, ty, pos, af, g⟩ (exT ((l.take hi).drop lo)) env loc := by
  constructor
  intro F a w hR
  obtain ⟨rfl⟩ := e1; obtain ⟨rfl⟩ := e2
  have hv : a.eval x = .string ⟨l.toArray⟩ := ev_eval hR hx
  have hvy : a.eval y = .int k lo := ev_eval hR hy
  have hvz : a.eval z = .int k2 hi := ev_eval hR hz
  refine ⟨_, rfl, fun w' _ => ?_⟩
  have hsz := ba_size l
  have he := ba_extract l lo hi
  generalize a.eval = ρ at hv hvy hvz ⊢
  generalize (⟨l.toArray⟩ : ByteArray) = s at hv hsz he
  have h4 : hi ≤ s.size := by omega
  simp [execOp, hv, hvy, hvz, Instr.sliceAt, Instr.slice, Instr.sliceBounds, Instr.sliceBound, asIntOf, run_und ht, go_sem, he, h1, h4]
theorem WT_ssll {l : List UInt8} {t : TypeId} {x y : Operand} {k : IntKind} {a1 : Int} {lo : Nat} (hx : ev env x = some (exT l)) (hy : ev env y = some (exI k a1)) [e1 : Nt a1 lo] (ht : C.P.underlying t = some .string) (h1 : lo ≤ l.length := by first | omega | (simp; done) | (simp; omega)) :
    WT C S ⟨dst, .slice t x (some y) none none, ty, pos, af, g⟩ (exT (l.drop lo)) env loc := by
  constructor
  intro F a w hR
  obtain ⟨rfl⟩ := e1
  have hv : a.eval x = .string ⟨l.toArray⟩ := ev_eval hR hx
  have hvy : a.eval y = .int k lo := ev_eval hR hy
  refine ⟨_, rfl, fun w' _ => ?_⟩
  have hsz := ba_size l
  have he := ba_extract l lo l.length
  rw [List.take_length] at he
  generalize a.eval = ρ at hv hvy ⊢
  generalize (⟨l.toArray⟩ : ByteArray) = s at hv hsz he
  have h4 : ¬ s.size < lo := by omega
  rw [← hsz] at he
  simp [execOp, hv, hvy, Instr.sliceAt, Instr.slice, Instr.sliceBounds, Instr.sliceBound, asIntOf, run_und ht, go_sem, he, h4]
theorem WT_sslh {l : List UInt8} {t : TypeId} {x z : Operand} {k : IntKind} {a2 : Int} {hi : Nat} (hx : ev env x = some (exT l)) (hz : ev env z = some (exI k a2)) [e2 : Nt a2 hi] (ht : C.P.underlying t = some .string) (h2 : hi ≤ l.length := by first | omega | (simp; done) | (simp; omega)) :
    WT C S ⟨dst, .slice t x none (some z) none, ty, pos, af, g⟩ (exT (l.take hi)) env loc := by
  constructor
  intro F a w hR
  obtain ⟨rfl⟩ := e2
  have hv : a.eval x = .string ⟨l.toArray⟩ := ev_eval hR hx
  have hvz : a.eval z = .int k hi := ev_eval hR hz
  refine ⟨_, rfl, fun w' _ => ?_⟩
  have hsz := ba_size l
  have he := ba_extract l 0 hi
  rw [List.drop_zero] at he
  generalize a.eval = ρ at hv hvz ⊢
  generalize (⟨l.toArray⟩ : ByteArray) = s at hv hsz he
  have h4 : ¬ s.size < hi := by omega
  simp [execOp, hv, hvz, Instr.sliceAt, Instr.slice, Instr.sliceBounds, Instr.sliceBound, asIntOf, run_und ht, go_sem, he, h4]
theorem g_mkif {t : TypeId} {x : Operand} {p : SP} (h : WT C S ⟨dst, .makeInterface t x, ty, pos, af, g⟩ p env loc) : WT C S ⟨dst, .makeInterface t x, ty, pos, af, g⟩ p env loc := h
theorem g_assert {x : Operand} {t u : TypeId} {b : Bool} {p : SP} (h : WT C S ⟨dst, .typeAssert x t u b, ty, pos, af, g⟩ p env loc) : WT C S ⟨dst, .typeAssert x t u b, ty, pos, af, g⟩ p env loc := h
end
end Go.Fr

/- Sources and tokens, in plain words: what a scanner does at a place. No program in sight. -/
namespace Go.Lx
def inR (c : UInt8) (a b : Nat) : Bool := decide (a ≤ c.toNat ∧ c.toNat ≤ b)
def letterB (c : UInt8) : Bool := inR c 97 122 || inR c 65 90
def digitB (c : UInt8) : Bool := inR c 48 57
def spaceB (c : UInt8) : Bool := decide (c = 32 ∨ c = 9 ∨ c = 10 ∨ c = 13)
def signL : List UInt8 := [123, 125, 40, 41, 59, 44, 61, 58, 46, 60, 62, 33, 43, 45, 42, 47]
def signB (c : UInt8) : Bool := decide (c ∈ signL)
def partB (c : UInt8) : Bool := letterB c || (digitB c || decide (c = 95))
def lineB (c : UInt8) : Bool := decide (c ≠ 10)
/-- The number that digits spell. -/
def valF (s : List UInt8) : Nat := s.foldl (fun n c => 10 * n + (c.toNat - 48)) 0
structure TokD where
  kind : Int
  text : List UInt8
  n : Int
  at_ : Int
instance : DecidableEq TokD := fun a b => decidable_of_iff (a.kind = b.kind ∧ a.text = b.text ∧ a.n = b.n ∧ a.at_ = b.at_) (by cases a; cases b; simp)
def nameB (s : List UInt8) : Bool := decide (1 ≤ s.length ∧ s.length ≤ 32) && (((s.head?).map letterB).getD false && s.all partB)
def numB (t : List UInt8) : Bool := decide (valF t ≤ 1099511627776) && (decide (t.length = 1) || decide (t.head? ≠ some 48))
/-- What happens at a place: so many bytes are left out, or a token of so many bytes begins, or an error is met. -/
inductive St where
  | skip (n : Nat)
  | tok (n : Nat) (kind : Int) (text : List UInt8) (v : Int)
  | bad
def St.len : St → Nat
  | skip n => n
  | tok n _ _ _ => n
  | bad => 0
def step : List UInt8 → St
  | [] => .bad
  | c :: s =>
    if spaceB c then .skip 1
    else if c = 47 ∧ s.head? = some 47 then .skip ((c :: s).takeWhile lineB).length
    else if letterB c then (if ((c :: s).takeWhile partB).length ≤ 32 then .tok ((c :: s).takeWhile partB).length 1 ((c :: s).takeWhile partB) 0 else .bad)
    else if digitB c then (if numB ((c :: s).takeWhile digitB) then .tok ((c :: s).takeWhile digitB).length 2 [] (valF ((c :: s).takeWhile digitB)) else .bad)
    else if signB c then .tok 1 3 [c] 0 else .bad
/-- The tokens from a place on, or the place of an error. -/
def lexG : Nat → Nat → List UInt8 → Except Nat (List TokD)
  | _, _, [] => .ok []
  | 0, p, _ :: _ => .error p
  | f + 1, p, c :: s => match step (c :: s) with
    | .bad => .error p
    | .skip n => lexG f (p + n) ((c :: s).drop n)
    | .tok n k t v => (lexG f (p + n) ((c :: s).drop n)).map (⟨k, t, v, p⟩ :: ·)
def lexF (p : Nat) (s : List UInt8) : Except Nat (List TokD) := lexG s.length p s
/-- Classes of bytes do not meet. -/
theorem class_cases (c : UInt8) : (letterB c = true → spaceB c = false ∧ digitB c = false ∧ signB c = false ∧ c ≠ 47 ∧ c ≠ 95 ∧ c ≠ 32) ∧ (digitB c = true → spaceB c = false ∧ letterB c = false ∧ signB c = false ∧ c ≠ 47 ∧ c ≠ 95 ∧ c ≠ 32) ∧ (signB c = true → spaceB c = false ∧ letterB c = false ∧ digitB c = false ∧ c ≠ 95 ∧ c ≠ 32) ∧ (spaceB c = true → partB c = false ∧ digitB c = false ∧ letterB c = false ∧ signB c = false ∧ c ≠ 47) := by
  have key : ∀ n : Fin 256, (letterB (UInt8.ofNat n.val) = true → spaceB (UInt8.ofNat n.val) = false ∧ digitB (UInt8.ofNat n.val) = false ∧ signB (UInt8.ofNat n.val) = false ∧ UInt8.ofNat n.val ≠ 47 ∧ UInt8.ofNat n.val ≠ 95 ∧ UInt8.ofNat n.val ≠ 32) ∧ (digitB (UInt8.ofNat n.val) = true → spaceB (UInt8.ofNat n.val) = false ∧ letterB (UInt8.ofNat n.val) = false ∧ signB (UInt8.ofNat n.val) = false ∧ UInt8.ofNat n.val ≠ 47 ∧ UInt8.ofNat n.val ≠ 95 ∧ UInt8.ofNat n.val ≠ 32) ∧ (signB (UInt8.ofNat n.val) = true → spaceB (UInt8.ofNat n.val) = false ∧ letterB (UInt8.ofNat n.val) = false ∧ digitB (UInt8.ofNat n.val) = false ∧ UInt8.ofNat n.val ≠ 95 ∧ UInt8.ofNat n.val ≠ 32) ∧ (spaceB (UInt8.ofNat n.val) = true → partB (UInt8.ofNat n.val) = false ∧ digitB (UInt8.ofNat n.val) = false ∧ letterB (UInt8.ofNat n.val) = false ∧ signB (UInt8.ofNat n.val) = false ∧ UInt8.ofNat n.val ≠ 47) := by decide +kernel
  have h := key ⟨c.toNat, c.toNat_lt⟩
  rw [show UInt8.ofNat c.toNat = c from UInt8.ofNat_toNat] at h
  exact h
theorem tw_app {α : Type} {p : α → Bool} : ∀ {a b : List α}, (∀ x ∈ a, p x = true) → (∀ c r, b = c :: r → p c = false) → (a ++ b).takeWhile p = a
  | [], [], _, _ => rfl
  | [], c :: r, _, h => by rw [List.nil_append, List.takeWhile_cons, h c r rfl]; rfl
  | x :: a, b, h, hb => by
    rw [List.cons_append, List.takeWhile_cons, h x List.mem_cons_self, if_pos rfl, tw_app (fun y hy => h y (List.mem_cons_of_mem _ hy)) hb]
theorem tw_all {α : Type} {p : α → Bool} : ∀ {s : List α}, ∀ x ∈ s.takeWhile p, p x = true
  | [], x, h => by cases h
  | c :: s, x, h => by
    rw [List.takeWhile_cons] at h
    by_cases hc : p c = true
    · rw [if_pos hc] at h
      rcases List.mem_cons.1 h with rfl | h
      · exact hc
      · exact tw_all x h
    · rw [if_neg hc] at h; cases h
theorem tw_drop {α : Type} {p : α → Bool} : ∀ {s : List α}, ∀ c r, s.drop (s.takeWhile p).length = c :: r → p c = false
  | [], c, r, h => by cases h
  | x :: s, c, r, h => by
    rw [List.takeWhile_cons] at h
    by_cases hx : p x = true
    · rw [if_pos hx, List.length_cons, List.drop_succ_cons] at h
      exact tw_drop c r h
    · rw [if_neg hx] at h
      injection h with h1 h2
      subst h1; simpa using hx
theorem tw_take {α : Type} {p : α → Bool} : ∀ (s : List α), s.take (s.takeWhile p).length = s.takeWhile p
  | [] => rfl
  | x :: s => by
    rw [List.takeWhile_cons]
    by_cases hx : p x = true
    · rw [if_pos hx, List.length_cons, List.take_succ_cons, tw_take s]
    · rw [if_neg hx]; rfl
theorem tw_len {α : Type} {p : α → Bool} (s : List α) : (s.takeWhile p).length ≤ s.length := (List.takeWhile_sublist _).length_le
/-- What is behind the bytes of a step does not belong to them. -/
def St.stop (r : St) (a : List UInt8) (c : UInt8) : Prop := match r with
  | .skip _ => (∃ d x, a = [d] ∧ x = d ∧ spaceB d = true) ∨ lineB c = false
  | .tok _ k t _ => (k = 1 → partB c = false) ∧ (k = 2 → digitB c = false) ∧ (k = 3 → t = [47] → c ≠ 47)
  | .bad => True
end Go.Lx

/- Steps of a scanner: what they are at words, white space and comments; and back. No program in sight. -/
namespace Go.Lx
theorem part_of_letter {c : UInt8} (h : letterB c = true) : partB c = true := by unfold partB; rw [h]; rfl
theorem part_of_digit {c : UInt8} (h : digitB c = true) : partB c = true := by unfold partB; rw [h]; simp
theorem line_ne {c : UInt8} (h : c ≠ 10) : lineB c = true := by unfold lineB; exact decide_eq_true h
theorem step_cons (c : UInt8) (s : List UInt8) : step (c :: s) = if spaceB c then .skip 1
    else if c = 47 ∧ s.head? = some 47 then .skip ((c :: s).takeWhile lineB).length
    else if letterB c then (if ((c :: s).takeWhile partB).length ≤ 32 then .tok ((c :: s).takeWhile partB).length 1 ((c :: s).takeWhile partB) 0 else .bad)
    else if digitB c then (if numB ((c :: s).takeWhile digitB) then .tok ((c :: s).takeWhile digitB).length 2 [] (valF ((c :: s).takeWhile digitB)) else .bad)
    else if signB c then .tok 1 3 [c] 0 else .bad := rfl
theorem step_space {c : UInt8} (h : spaceB c = true) (b : List UInt8) : step (c :: b) = .skip 1 := by rw [step_cons, if_pos h]
theorem step_comment (s : List UInt8) : step (47 :: 47 :: s) = .skip ((47 :: 47 :: s).takeWhile lineB).length := by
  rw [step_cons, if_neg (by decide), if_pos ⟨rfl, rfl⟩]
theorem step_name {c : UInt8} {w b : List UInt8} (h : letterB c = true) (hw : ∀ x ∈ w, partB x = true) (hl : (c :: w).length ≤ 32) (hb : ∀ d r, b = d :: r → partB d = false) : step (c :: w ++ b) = .tok (c :: w).length 1 (c :: w) 0 := by
  have ht : (c :: w ++ b).takeWhile partB = c :: w := tw_app (fun x hx => by
    rcases List.mem_cons.1 hx with rfl | hx
    · exact part_of_letter h
    · exact hw x hx) hb
  obtain ⟨h1, -, -, h4, -, -⟩ := (class_cases c).1 h
  rw [List.cons_append, step_cons, if_neg (by simp [h1]), if_neg (by simp [h4]), if_pos h, ← List.cons_append, ht, if_pos hl]
theorem step_num {c : UInt8} {w b : List UInt8} (h : digitB c = true) (hw : ∀ x ∈ w, digitB x = true) (hn : numB (c :: w) = true) (hb : ∀ d r, b = d :: r → digitB d = false) : step (c :: w ++ b) = .tok (c :: w).length 2 [] (valF (c :: w)) := by
  have ht : (c :: w ++ b).takeWhile digitB = c :: w := tw_app (fun x hx => by
    rcases List.mem_cons.1 hx with rfl | hx
    · exact h
    · exact hw x hx) hb
  obtain ⟨h1, h2, -, h4, -, -⟩ := (class_cases c).2.1 h
  rw [List.cons_append, step_cons, if_neg (by simp [h1]), if_neg (by simp [h4]), if_neg (by simp [h2]), if_pos h, ← List.cons_append, ht, if_pos hn]
theorem step_sign {c : UInt8} {b : List UInt8} (h : signB c = true) (hb : c = 47 → b.head? ≠ some 47) : step (c :: b) = .tok 1 3 [c] 0 := by
  obtain ⟨h1, h2, h3, -, -⟩ := (class_cases c).2.2.1 h
  rw [step_cons, if_neg (by simp [h1]), if_neg (fun e => hb e.1 e.2), if_neg (by simp [h2]), if_neg (by simp [h3]), if_pos h]
/-- A step, taken apart. -/
inductive StepIs (c : UInt8) (s : List UInt8) : St → Prop
  | space (h : spaceB c = true) : StepIs c s (.skip 1)
  | comment (h : c = 47) (h2 : s.head? = some 47) : StepIs c s (.skip ((c :: s).takeWhile lineB).length)
  | name (h : letterB c = true) (hl : ((c :: s).takeWhile partB).length ≤ 32) : StepIs c s (.tok ((c :: s).takeWhile partB).length 1 ((c :: s).takeWhile partB) 0)
  | num (h : digitB c = true) (hn : numB ((c :: s).takeWhile digitB) = true) : StepIs c s (.tok ((c :: s).takeWhile digitB).length 2 [] (valF ((c :: s).takeWhile digitB)))
  | sign (h : signB c = true) (h2 : c = 47 → s.head? ≠ some 47) : StepIs c s (.tok 1 3 [c] 0)
  | badName (h : letterB c = true) (hl : 32 < ((c :: s).takeWhile partB).length) : StepIs c s .bad
  | badNum (h : digitB c = true) (hn : numB ((c :: s).takeWhile digitB) = false) : StepIs c s .bad
  | other (h1 : spaceB c = false) (h2 : letterB c = false) (h3 : digitB c = false) (h4 : signB c = false) : StepIs c s .bad
theorem sign47 : signB 47 = true := by decide
theorem step_is (c : UInt8) (s : List UInt8) : StepIs c s (step (c :: s)) := by
  rw [step_cons]
  by_cases h1 : spaceB c = true
  · rw [if_pos h1]; exact .space h1
  rw [if_neg h1]
  by_cases h2 : c = 47 ∧ s.head? = some 47
  · rw [if_pos h2]; exact .comment h2.1 h2.2
  rw [if_neg h2]
  by_cases h3 : letterB c = true
  · rw [if_pos h3]
    by_cases hl : ((c :: s).takeWhile partB).length ≤ 32
    · rw [if_pos hl]; exact .name h3 hl
    · rw [if_neg hl]; exact .badName h3 (by omega)
  rw [if_neg h3]
  by_cases h4 : digitB c = true
  · rw [if_pos h4]
    by_cases hn : numB ((c :: s).takeWhile digitB) = true
    · rw [if_pos hn]; exact .num h4 hn
    · rw [if_neg hn]; exact .badNum h4 (by simpa using hn)
  rw [if_neg h4]
  by_cases h5 : signB c = true
  · rw [if_pos h5]; exact .sign h5 fun e e2 => h2 ⟨e, e2⟩
  · rw [if_neg h5]; exact .other (by simpa using h1) (by simpa using h3) (by simpa using h4) (by simpa using h5)
theorem tw_pos {p : UInt8 → Bool} {c : UInt8} {s : List UInt8} (h : p c = true) : 1 ≤ ((c :: s).takeWhile p).length := by
  rw [List.takeWhile_cons, if_pos h, List.length_cons]; omega
theorem step_len (c : UInt8) (s : List UInt8) (h : step (c :: s) ≠ .bad) : 1 ≤ (step (c :: s)).len ∧ (step (c :: s)).len ≤ (c :: s).length := by
  have hs := step_is c s
  generalize step (c :: s) = r at hs h ⊢
  cases hs with
  | space _ => exact ⟨Nat.le_refl _, by show 1 ≤ _; simp⟩
  | comment h1 _ => exact ⟨tw_pos (by subst h1; decide), tw_len _⟩
  | name h1 _ => exact ⟨tw_pos (part_of_letter h1), tw_len _⟩
  | num h1 _ => exact ⟨tw_pos h1, tw_len _⟩
  | sign _ _ => exact ⟨Nat.le_refl _, by show 1 ≤ _; simp⟩
  | badName _ _ => exact absurd rfl h
  | badNum _ _ => exact absurd rfl h
  | other _ _ _ _ => exact absurd rfl h
theorem lexG_fuel : ∀ (f g p : Nat) (s : List UInt8), s.length ≤ f → s.length ≤ g → lexG f p s = lexG g p s
  | 0, 0, _, [], _, _ => rfl
  | 0, _ + 1, _, [], _, _ => rfl
  | _ + 1, 0, _, [], _, _ => rfl
  | _ + 1, _ + 1, _, [], _, _ => rfl
  | 0, _, _, _ :: _, h, _ => absurd h (by simp)
  | _ + 1, 0, _, _ :: _, _, h => absurd h (by simp)
  | f + 1, g + 1, p, c :: s, hf, hg => by
    have hl := step_len c s
    unfold lexG
    cases hr : step (c :: s) with
    | bad => rfl
    | skip n =>
      rw [hr] at hl
      have := hl (by simp)
      simp only [St.len, List.length_cons] at this hf hg
      exact lexG_fuel f g _ _ (by rw [List.length_drop, List.length_cons]; omega) (by rw [List.length_drop, List.length_cons]; omega)
    | tok n k t v =>
      rw [hr] at hl
      have := hl (by simp)
      simp only [St.len, List.length_cons] at this hf hg
      show Except.map _ _ = Except.map _ _
      rw [lexG_fuel f g _ _ (by rw [List.length_drop, List.length_cons]; omega) (by rw [List.length_drop, List.length_cons]; omega)]
theorem lexF_nil (p : Nat) : lexF p [] = .ok [] := rfl
theorem lexF_bad {p : Nat} {c : UInt8} {s : List UInt8} (h : step (c :: s) = .bad) : lexF p (c :: s) = .error p := by
  unfold lexF; rw [List.length_cons, lexG, h]
theorem lexF_skip {p n : Nat} {c : UInt8} {s : List UInt8} (h : step (c :: s) = .skip n) : lexF p (c :: s) = lexF (p + n) ((c :: s).drop n) := by
  have hl := step_len c s (by rw [h]; simp)
  rw [h] at hl
  simp only [St.len, List.length_cons] at hl
  unfold lexF
  rw [List.length_cons, lexG, h]
  exact lexG_fuel _ _ _ _ (by rw [List.length_drop, List.length_cons]; omega) (Nat.le_refl _)
theorem lexF_tok {p n : Nat} {k v : Int} {t : List UInt8} {c : UInt8} {s : List UInt8} (h : step (c :: s) = .tok n k t v) : lexF p (c :: s) = (lexF (p + n) ((c :: s).drop n)).map (⟨k, t, v, p⟩ :: ·) := by
  have hl := step_len c s (by rw [h]; simp)
  rw [h] at hl
  simp only [St.len, List.length_cons] at hl
  unfold lexF
  rw [List.length_cons, lexG, h]
  show Except.map _ _ = _
  rw [lexG_fuel _ _ _ _ (by rw [List.length_drop, List.length_cons]; omega) (Nat.le_refl _)]
/-- Induction along the steps of a scanner. -/
theorem lex_ind {P : Nat → List UInt8 → Prop} (h0 : ∀ p, P p []) (h : ∀ p c s, (step (c :: s) ≠ .bad → P (p + (step (c :: s)).len) ((c :: s).drop (step (c :: s)).len)) → P p (c :: s)) : ∀ p s, P p s := by
  have key : ∀ m s, s.length ≤ m → ∀ p, P p s := by
    intro m
    induction m with
    | zero =>
      intro s hs p
      cases s with
      | nil => exact h0 p
      | cons c s => simp at hs
    | succ m ih =>
      intro s hs p
      cases s with
      | nil => exact h0 p
      | cons c s =>
        refine h p c s fun hb => ih _ ?_ _
        have := step_len c s hb
        rw [List.length_drop]; simp only [List.length_cons] at hs ⊢; omega
  exact fun p s => key s.length s (Nat.le_refl _) p
/-- Tokens, at later places. -/
def shiftL (d : Nat) (l : List TokD) : List TokD := l.map fun t => { t with at_ := t.at_ + d }
def shiftR (d : Nat) : Except Nat (List TokD) → Except Nat (List TokD)
  | .ok l => .ok (shiftL d l)
  | .error p => .error (p + d)
theorem lexF_shift (d : Nat) : ∀ p s, lexF (p + d) s = shiftR d (lexF p s) := by
  refine lex_ind (fun p => rfl) fun p c s ih => ?_
  cases hr : step (c :: s) with
  | bad => rw [lexF_bad hr, lexF_bad hr]; rfl
  | skip n =>
    rw [hr] at ih
    have ih := ih (by simp)
    simp only [St.len] at ih
    rw [lexF_skip hr, lexF_skip hr, ← ih, Nat.add_right_comm]
  | tok n k t v =>
    rw [hr] at ih
    have ih := ih (by simp)
    simp only [St.len] at ih
    rw [lexF_tok hr, lexF_tok hr, Nat.add_right_comm, ih]
    cases lexF (p + n) ((c :: s).drop n) with
    | error q => rfl
    | ok l => show Except.ok _ = Except.ok _; simp [shiftL]
end Go.Lx

/- Texts of tokens, and what they are read as. No program in sight. -/
namespace Go.Lx
/-- The digits of a number. -/
def decF : Nat → List UInt8
  | n => if h : n < 10 then [UInt8.ofNat (48 + n)] else decF (n / 10) ++ [UInt8.ofNat (48 + n % 10)]
decreasing_by omega
theorem decF_small {n : Nat} (h : n < 10) : decF n = [UInt8.ofNat (48 + n)] := by rw [decF, dif_pos h]
theorem decF_big {n : Nat} (h : ¬ n < 10) : decF n = decF (n / 10) ++ [UInt8.ofNat (48 + n % 10)] := by rw [decF, dif_neg h]
theorem dig_nat {d : Nat} (h : d < 10) : (UInt8.ofNat (48 + d)).toNat = 48 + d := by
  rw [UInt8.toNat_ofNat']; omega
theorem dig_digit {d : Nat} (h : d < 10) : digitB (UInt8.ofNat (48 + d)) = true := by
  unfold digitB inR; rw [dig_nat h]; exact decide_eq_true ⟨by omega, by omega⟩
theorem nat_ind10 {P : Nat → Prop} (h0 : ∀ n, n < 10 → P n) (h : ∀ n, ¬ n < 10 → P (n / 10) → P n) : ∀ n, P n := by
  intro n
  induction n using Nat.strongRecOn with
  | _ n ih =>
    by_cases hn : n < 10
    · exact h0 n hn
    · exact h n hn (ih _ (by omega))
theorem decF_digits : ∀ n, ∀ c ∈ decF n, digitB c = true := by
  refine nat_ind10 (fun n h c hc => ?_) fun n h ih c hc => ?_
  · rw [decF_small h, List.mem_singleton] at hc; subst hc; exact dig_digit h
  · rw [decF_big h, List.mem_append, List.mem_singleton] at hc
    rcases hc with hc | rfl
    · exact ih c hc
    · exact dig_digit (by omega)
theorem decF_ne (n : Nat) : decF n ≠ [] := by
  by_cases h : n < 10
  · rw [decF_small h]; simp
  · rw [decF_big h]; simp
theorem valF_snoc (s : List UInt8) (c : UInt8) : valF (s ++ [c]) = 10 * valF s + (c.toNat - 48) := by
  unfold valF; rw [List.foldl_append]; rfl
theorem decF_val : ∀ n, valF (decF n) = n := by
  refine nat_ind10 (fun n h => ?_) fun n h ih => ?_
  · rw [decF_small h]; show 10 * 0 + ((UInt8.ofNat (48 + n)).toNat - 48) = n; rw [dig_nat h]; omega
  · rw [decF_big h, valF_snoc, ih, dig_nat (by omega)]; omega
theorem decF_head : ∀ n, 1 ≤ n → (decF n).head? ≠ some 48 := by
  refine nat_ind10 (fun n h hn => ?_) fun n h ih _ => ?_
  · rw [decF_small h]
    intro e
    have e2 : UInt8.ofNat (48 + n) = 48 := by simpa using e
    have := congrArg UInt8.toNat e2
    rw [dig_nat h] at this
    have : 48 + n = 48 := this
    omega
  · rw [decF_big h]
    cases hd : decF (n / 10) with
    | nil => exact absurd hd (decF_ne _)
    | cons c r =>
      rw [List.cons_append, List.head?_cons]
      have := ih (by omega)
      rw [hd, List.head?_cons] at this
      exact this
theorem decF_numB {n : Nat} (h : n ≤ 1099511627776) : numB (decF n) = true := by
  unfold numB
  rw [decF_val, decide_eq_true h, Bool.true_and, Bool.or_eq_true, decide_eq_true_iff, decide_eq_true_iff]
  by_cases hn : n = 0
  · left; subst hn; rw [decF_small (by omega)]; rfl
  · right; exact decF_head n (by omega)
/-- Digits without a zero ahead are those of their number. -/
theorem valF_pos {c : UInt8} {s : List UInt8} (h : c ≠ 48) (hc : digitB c = true) : 1 ≤ valF (c :: s) := by
  have key : ∀ (s : List UInt8) (n : Nat), 1 ≤ n → 1 ≤ s.foldl (fun n c => 10 * n + (c.toNat - 48)) n := by
    intro s
    induction s with
    | nil => intro n h; exact h
    | cons d s ih => intro n hn; exact ih (10 * n + (d.toNat - 48)) (by omega)
  unfold digitB inR at hc
  have hc := of_decide_eq_true hc
  have : c.toNat ≠ 48 := fun e => h (by have := congrArg UInt8.ofNat e; rwa [UInt8.ofNat_toNat] at this)
  refine key s _ ?_
  show 1 ≤ 10 * 0 + (c.toNat - 48)
  omega
theorem dig_back {c : UInt8} (h : digitB c = true) : UInt8.ofNat (48 + (c.toNat - 48)) = c := by
  unfold digitB inR at h
  have h := of_decide_eq_true h
  rw [show 48 + (c.toNat - 48) = c.toNat by omega, UInt8.ofNat_toNat]
theorem val_dec : ∀ (s : List UInt8), (∀ c ∈ s, digitB c = true) → s ≠ [] → (s.length = 1 ∨ s.head? ≠ some 48) → decF (valF s) = s := by
  intro s
  induction hm : s.length using Nat.strongRecOn generalizing s with
  | _ m ih =>
    intro hd hne hz
    obtain ⟨a, c, rfl⟩ : ∃ a c, s = a ++ [c] := ⟨s.dropLast, s.getLast hne, (List.dropLast_concat_getLast hne).symm⟩
    have hc := hd c (by simp)
    have hc2 := hc
    unfold digitB inR at hc2
    have hc2 := of_decide_eq_true hc2
    rw [valF_snoc]
    by_cases ha : a = []
    · subst ha
      show decF (10 * 0 + (c.toNat - 48)) = [c]
      rw [decF_small (by omega), Nat.mul_zero, Nat.zero_add, dig_back hc]
    · have hda : ∀ x ∈ a, digitB x = true := fun x hx => hd x (List.mem_append_left _ hx)
      cases a with
      | nil => exact absurd rfl ha
      | cons x r =>
        have hx : x ≠ 48 := by
          rcases hz with h | h
          · have hm2 := hm; simp at hm2; omega
          · intro e; subst e; exact h rfl
        have hv := valF_pos (s := r) hx (hda x (by simp))
        have := ih _ (by rw [← hm]; simp) (x :: r) rfl hda (by simp) (.inr (by simpa using hx))
        rw [decF_big (by omega), show (10 * valF (x :: r) + (c.toNat - 48)) / 10 = valF (x :: r) by omega, this, show (10 * valF (x :: r) + (c.toNat - 48)) % 10 = c.toNat - 48 by omega, dig_back hc]
/-- Valid tokens and their words. -/
def validB (t : TokD) : Bool :=
  if t.kind = 1 then nameB t.text && decide (t.n = 0)
  else if t.kind = 2 then decide (t.text = []) && decide (0 ≤ t.n ∧ t.n ≤ 1099511627776)
  else if t.kind = 3 then decide (t.text.length = 1) && (((t.text.head?).map signB).getD false && decide (t.n = 0))
  else false
def word (t : TokD) : List UInt8 := if t.kind = 2 then decF t.n.toNat else t.text
def joinF : List (List UInt8) → List UInt8
  | [] => []
  | [w] => w
  | w :: l => w ++ 32 :: joinF l
theorem joinF_cons (w v : List UInt8) (l : List (List UInt8)) : joinF (w :: v :: l) = w ++ 32 :: joinF (v :: l) := rfl
/-- A word that ends: nothing, or a space behind it. -/
def Ends (b : List UInt8) : Prop := ∀ d r, b = d :: r → d = 32
theorem Ends.part {b : List UInt8} (h : Ends b) : ∀ d r, b = d :: r → partB d = false := fun d r e => by rw [h d r e]; decide
theorem Ends.digit {b : List UInt8} (h : Ends b) : ∀ d r, b = d :: r → digitB d = false := fun d r e => by rw [h d r e]; decide
theorem Ends.slash {b : List UInt8} (h : Ends b) : b.head? ≠ some 47 := by
  cases b with
  | nil => simp
  | cons d r => rw [h d r rfl, List.head?_cons]; decide
theorem nameB_iff {s : List UInt8} : nameB s = true ↔ ∃ c w, s = c :: w ∧ s.length ≤ 32 ∧ letterB c = true ∧ ∀ x ∈ w, partB x = true := by
  unfold nameB
  cases s with
  | nil => simp
  | cons c w =>
    rw [Bool.and_eq_true, Bool.and_eq_true, decide_eq_true_iff, List.all_eq_true]
    constructor
    · rintro ⟨⟨-, h2⟩, h3, h4⟩
      exact ⟨c, w, rfl, h2, h3, fun x hx => h4 x (List.mem_cons_of_mem _ hx)⟩
    · rintro ⟨c', w', e, h2, h3, h4⟩
      injection e with e1 e2
      subst e1; subst e2
      refine ⟨⟨by simp, h2⟩, h3, fun x hx => ?_⟩
      rcases List.mem_cons.1 hx with rfl | hx
      · exact part_of_letter h3
      · exact h4 x hx
theorem word_step {t : TokD} (h : validB t = true) {b : List UInt8} (hb : Ends b) : ∃ c w, word t = c :: w ∧ step (word t ++ b) = .tok (word t).length t.kind t.text t.n := by
  obtain ⟨k, s, n, a⟩ := t
  unfold validB at h
  simp only at h
  unfold word
  simp only
  by_cases h1 : k = 1
  · subst h1
    rw [if_pos rfl, Bool.and_eq_true, decide_eq_true_iff] at h
    obtain ⟨hn, rfl⟩ := h
    obtain ⟨c, w, rfl, hl, hc, hw⟩ := nameB_iff.1 hn
    rw [if_neg (by decide)]
    exact ⟨c, w, rfl, step_name hc hw hl hb.part⟩
  rw [if_neg h1] at h
  by_cases h2 : k = 2
  · subst h2
    rw [if_pos rfl, Bool.and_eq_true, decide_eq_true_iff, decide_eq_true_iff] at h
    obtain ⟨rfl, h3, h4⟩ := h
    rw [if_pos rfl]
    cases hd : decF n.toNat with
    | nil => exact absurd hd (decF_ne _)
    | cons c w =>
      have hdg := decF_digits n.toNat
      rw [hd] at hdg
      have hnb := decF_numB (n := n.toNat) (by omega)
      rw [hd] at hnb
      have hst := step_num (b := b) (hdg c (by simp)) (fun x hx => hdg x (List.mem_cons_of_mem _ hx)) hnb hb.digit
      rw [← hd, decF_val, hd, Int.toNat_of_nonneg h3] at hst
      exact ⟨c, w, rfl, hst⟩
  rw [if_neg h2] at h
  by_cases h3 : k = 3
  · subst h3
    rw [if_pos rfl, Bool.and_eq_true, Bool.and_eq_true, decide_eq_true_iff, decide_eq_true_iff] at h
    obtain ⟨hl, hc, rfl⟩ := h
    match s, hl with
    | [c], _ =>
      rw [if_neg (by decide)]
      exact ⟨c, [], rfl, step_sign hc fun _ => hb.slash⟩
  rw [if_neg h3] at h; cases h
theorem lex_word {t : TokD} (h : validB t = true) {b : List UInt8} (hb : Ends b) (p : Nat) : lexF p (word t ++ b) = (lexF (p + (word t).length) b).map (⟨t.kind, t.text, t.n, p⟩ :: ·) := by
  obtain ⟨c, w, hw, hs⟩ := word_step h hb
  rw [hw, List.cons_append] at hs ⊢
  rw [lexF_tok hs]
  rw [← List.cons_append, List.drop_left]
theorem lex_space {c : UInt8} (h : spaceB c = true) (p : Nat) (b : List UInt8) : lexF p (c :: b) = lexF (p + 1) b := by
  rw [lexF_skip (step_space h b)]; rfl
/-- Equal but for their places. -/
def sameL (a b : List TokD) : Bool := decide (a.map (fun t => (t.kind, t.text, t.n)) = b.map (fun t => (t.kind, t.text, t.n)))
/-- Words with spaces between them are read as their tokens. -/
theorem lex_join : ∀ (l : List TokD) (p : Nat), (∀ t ∈ l, validB t = true) → ∃ m, lexF p (joinF (l.map word)) = .ok m ∧ sameL l m = true
  | [], p, _ => ⟨[], rfl, rfl⟩
  | [t], p, h => by
    have := lex_word (h t (by simp)) (b := []) (fun d r e => by cases e) p
    rw [List.append_nil, lexF_nil] at this
    refine ⟨_, this, ?_⟩
    unfold sameL; simp
  | t :: u :: l, p, h => by
    obtain ⟨m, h1, h2⟩ := lex_join (u :: l) (p + (word t).length + 1) fun x hx => h x (List.mem_cons_of_mem _ hx)
    have hw := lex_word (h t (by simp)) (b := 32 :: joinF ((u :: l).map word)) (fun d r e => by injection e with e1 _; exact e1.symm) p
    rw [lex_space (by decide), h1] at hw
    refine ⟨_, hw, ?_⟩
    unfold sameL at h2 ⊢
    have h2 := of_decide_eq_true h2
    refine decide_eq_true ?_
    show (t.kind, t.text, t.n) :: List.map _ (u :: l) = (t.kind, t.text, t.n) :: List.map _ m
    rw [h2]
/-- What is read is valid. -/
theorem lex_valid : ∀ (p : Nat) (s : List UInt8) (l : List TokD), lexF p s = .ok l → ∀ t ∈ l, validB t = true := by
  refine lex_ind (fun p l h t ht => ?_) fun p c s ih l h => ?_
  · rw [lexF_nil] at h; injection h with h; subst h; cases ht
  · have hi := step_is c s
    cases hr : step (c :: s) with
    | bad => rw [lexF_bad hr] at h; cases h
    | skip n => rw [hr] at ih; rw [lexF_skip hr] at h; exact ih (by simp) l h
    | tok n k t v =>
      rw [hr] at ih hi
      rw [lexF_tok hr] at h
      have ih := ih (by simp)
      simp only [St.len] at ih
      cases he : lexF (p + n) ((c :: s).drop n) with
      | error q => rw [he] at h; cases h
      | ok m =>
        rw [he] at h ih
        injection h with h
        subst h
        intro x hx
        rcases List.mem_cons.1 hx with rfl | hx
        · unfold validB
          cases hi with
          | name h1 h2 =>
            rw [if_pos rfl, Bool.and_eq_true]
            refine ⟨nameB_iff.2 ?_, rfl⟩
            rw [List.takeWhile_cons, if_pos (part_of_letter h1)] at h2 ⊢
            exact ⟨c, _, rfl, h2, h1, tw_all⟩
          | num h1 h2 =>
            unfold numB at h2
            rw [Bool.and_eq_true, decide_eq_true_iff] at h2
            have h3 := h2.1
            simp; omega
          | sign h1 h2 =>
            simp [h1]
        · exact ih m rfl x hx
end Go.Lx

/- Chapter 03, plain laws: white space and comments; errors; names. No program in sight. -/
namespace Go.Lx
/-- White space and comments, whatever follows. -/
def Gap (g : List UInt8) : Prop := ∀ p b, lexF p (g ++ b) = lexF (p + g.length) b
theorem gap_nil : Gap [] := fun _ _ => rfl
theorem gap_space {c : UInt8} {g : List UInt8} (h : spaceB c = true) (hg : Gap g) : Gap (c :: g) := fun p b => by
  rw [List.cons_append, lex_space h, hg, List.length_cons, Nat.add_assoc, Nat.add_comm 1]
theorem gap_comment {w g : List UInt8} (hw : ∀ x ∈ w, x ≠ 10) (hg : Gap g) : Gap (47 :: 47 :: w ++ 10 :: g) := fun p b => by
  have e : 47 :: 47 :: w ++ 10 :: g ++ b = 47 :: 47 :: (w ++ 10 :: (g ++ b)) := by simp
  have ht : (47 :: 47 :: (w ++ 10 :: (g ++ b))).takeWhile lineB = 47 :: 47 :: w := by
    rw [← List.cons_append, ← List.cons_append]
    refine tw_app (fun x hx => line_ne ?_) fun d r he => by injection he with h1 _; rw [← h1]; decide
    rcases List.mem_cons.1 hx with rfl | hx
    · decide
    · rcases List.mem_cons.1 hx with rfl | hx
      · decide
      · exact hw x hx
  rw [e, lexF_skip (step_comment _), ht, ← List.cons_append, ← List.cons_append, List.drop_left, lex_space (by decide), hg]
  congr 1
  simp; omega
def spacedF (gaps : Nat → List UInt8) : Nat → List TokD → List UInt8
  | _, [] => []
  | i, t :: l => word t ++ 32 :: (gaps i ++ spacedF gaps (i + 1) l)
theorem lex_spaced {gaps : Nat → List UInt8} (hg : ∀ i, Gap (gaps i)) : ∀ (l : List TokD) (i p : Nat), (∀ t ∈ l, validB t = true) → ∃ m, lexF p (spacedF gaps i l) = .ok m ∧ sameL l m = true
  | [], _, _, _ => ⟨[], rfl, rfl⟩
  | t :: l, i, p, h => by
    obtain ⟨m, h1, h2⟩ := lex_spaced hg l (i + 1) (p + (word t).length + 1 + (gaps i).length) fun x hx => h x (List.mem_cons_of_mem _ hx)
    have hw := lex_word (h t (by simp)) (b := 32 :: (gaps i ++ spacedF gaps (i + 1) l)) (fun d r e => by injection e with e1 _; exact e1.symm) p
    rw [lex_space (by decide), hg, h1] at hw
    refine ⟨_, hw, ?_⟩
    unfold sameL at h2 ⊢
    have h2 := of_decide_eq_true h2
    refine decide_eq_true ?_
    show (t.kind, t.text, t.n) :: List.map _ l = (t.kind, t.text, t.n) :: List.map _ m
    rw [h2]
/-- A name is a single token, and what is a single token of this kind is a name. -/
theorem lex_name (s : List UInt8) : nameB s = true ↔ lexF 0 s = .ok [⟨1, s, 0, 0⟩] := by
  have hv : validB ⟨1, s, 0, 0⟩ = nameB s := by unfold validB; simp
  constructor
  · intro h
    have := lex_word (t := ⟨1, s, 0, 0⟩) (by rw [hv]; exact h) (b := []) (fun d r e => by cases e) 0
    rw [List.append_nil, lexF_nil] at this
    exact this
  · intro h
    have := lex_valid 0 s _ h ⟨1, s, 0, 0⟩ (by simp)
    rwa [hv] at this
theorem tw_ext {α : Type} {p : α → Bool} : ∀ (s u : List α), ∃ e, (s ++ u).takeWhile p = s.takeWhile p ++ e ∧ ((s.takeWhile p).length < s.length → e = [])
  | [], u => ⟨u.takeWhile p, rfl, fun h => by simp at h⟩
  | c :: s, u => by
    by_cases hc : p c = true
    · obtain ⟨e, h1, h2⟩ := tw_ext (p := p) s u
      refine ⟨e, ?_, fun h => ?_⟩
      · rw [List.cons_append, List.takeWhile_cons, if_pos hc, List.takeWhile_cons, if_pos hc, h1]; rfl
      · rw [List.takeWhile_cons, if_pos hc, List.length_cons, List.length_cons] at h
        exact h2 (by omega)
    · refine ⟨[], ?_, fun _ => rfl⟩
      rw [List.cons_append, List.takeWhile_cons, if_neg hc, List.takeWhile_cons, if_neg hc]; rfl
theorem tw_stop {α : Type} {p : α → Bool} {s u : List α} (h : (s.takeWhile p).length < s.length) : (s ++ u).takeWhile p = s.takeWhile p := by
  obtain ⟨e, h1, h2⟩ := tw_ext (p := p) s u
  rw [h1, h2 h, List.append_nil]
theorem tw_cut {α : Type} {p : α → Bool} {s : List α} {m : Nat} (h : (s.takeWhile p).length ≤ m) : (s.take m).takeWhile p = s.takeWhile p := by
  have e : s.take m = s.takeWhile p ++ (s.drop (s.takeWhile p).length).take (m - (s.takeWhile p).length) := by
    conv => lhs; rw [← List.take_append_drop (s.takeWhile p).length s]
    rw [List.take_append, List.take_of_length_le (by rw [List.length_take]; omega), tw_take]
  rw [e]
  refine tw_app tw_all fun c r hcr => ?_
  cases hd : s.drop (s.takeWhile p).length with
  | nil => rw [hd] at hcr; simp at hcr
  | cons d q =>
    rw [hd] at hcr
    cases hm : m - (s.takeWhile p).length with
    | zero => rw [hm] at hcr; simp at hcr
    | succ k =>
      rw [hm, List.take_succ_cons] at hcr
      injection hcr with h1 _
      rw [← h1]; exact tw_drop d q hd
theorem head_app {s u : List UInt8} (h : s ≠ []) : (s ++ u).head? = s.head? := by
  cases s with
  | nil => exact absurd rfl h
  | cons c s => rfl
theorem valF_app (d : List UInt8) : ∀ e, valF d ≤ valF (d ++ e) := by
  intro e
  have key : ∀ (e : List UInt8) (n : Nat), n ≤ e.foldl (fun n c => 10 * n + (c.toNat - 48)) n := by
    intro e
    induction e with
    | nil => intro n; exact Nat.le_refl _
    | cons c e ih => intro n; exact Nat.le_trans (by omega) (ih (10 * n + (c.toNat - 48)))
  unfold valF
  rw [List.foldl_append]
  exact key e _
theorem numB_app {d : List UInt8} (hd : d ≠ []) (h : numB d = false) (e : List UInt8) : numB (d ++ e) = false := by
  unfold numB at h ⊢
  have hv := valF_app d e
  rw [Bool.and_eq_false_iff, decide_eq_false_iff_not] at h ⊢
  rcases h with h | h
  · left; omega
  · right
    rw [Bool.or_eq_false_iff, decide_eq_false_iff_not, decide_eq_false_iff_not] at h ⊢
    refine ⟨?_, by rw [head_app hd]; exact h.2⟩
    have : 1 ≤ d.length := by cases d with | nil => exact absurd rfl hd | cons _ _ => simp
    rw [List.length_append]; omega
/-- What follows changes nothing, if a step ends ahead of it. -/
theorem step_app {c : UInt8} {s : List UInt8} (u : List UInt8) (hb : step (c :: s) ≠ .bad) (hl : (step (c :: s)).len < (c :: s).length) : step (c :: s ++ u) = step (c :: s) := by
  have hi := step_is c s
  generalize hr : step (c :: s) = r at hi hb hl ⊢
  rw [List.cons_append]
  cases hi with
  | space h => exact step_space h _
  | comment h h2 =>
    subst h
    have hs : s ≠ [] := fun e => by rw [e] at h2; cases h2
    rw [step_cons, if_neg (by decide), if_pos ⟨rfl, by rw [head_app hs]; exact h2⟩, ← List.cons_append, tw_stop hl]
  | name h h2 =>
    obtain ⟨h3, -, -, h4, -, -⟩ := (class_cases c).1 h
    rw [step_cons, if_neg (by simp [h3]), if_neg (by simp [h4]), if_pos h, ← List.cons_append, tw_stop hl, if_pos h2]
  | num h h2 =>
    obtain ⟨h3, h5, -, h4, -, -⟩ := (class_cases c).2.1 h
    rw [step_cons, if_neg (by simp [h3]), if_neg (by simp [h4]), if_neg (by simp [h5]), if_pos h, ← List.cons_append, tw_stop hl, if_pos h2]
  | sign h h2 =>
    have hs : s ≠ [] := fun e => by subst e; exact absurd (show 1 < 1 from hl) (by decide)
    exact step_sign h fun e => by rw [head_app hs]; exact h2 e
  | badName _ _ => exact absurd rfl hb
  | badNum _ _ => exact absurd rfl hb
  | other _ _ _ _ => exact absurd rfl hb
theorem bad_app {c : UInt8} {s : List UInt8} (u : List UInt8) (hb : step (c :: s) = .bad) : step (c :: s ++ u) = .bad := by
  have hi := step_is c s
  rw [hb] at hi
  rw [List.cons_append]
  cases hi with
  | badName h h2 =>
    obtain ⟨h3, -, -, h4, -, -⟩ := (class_cases c).1 h
    obtain ⟨e, he, -⟩ := tw_ext (p := partB) (c :: s) u
    rw [step_cons, if_neg (by simp [h3]), if_neg (by simp [h4]), if_pos h, ← List.cons_append, he, if_neg (by rw [List.length_append]; omega)]
  | badNum h h2 =>
    obtain ⟨h3, h5, -, h4, -, -⟩ := (class_cases c).2.1 h
    obtain ⟨e, he, -⟩ := tw_ext (p := digitB) (c :: s) u
    have hne : (c :: s).takeWhile digitB ≠ [] := fun e2 => by
      have := tw_pos (s := s) h
      rw [e2] at this; simp at this
    rw [step_cons, if_neg (by simp [h3]), if_neg (by simp [h4]), if_neg (by simp [h5]), if_pos h, ← List.cons_append, he, numB_app hne h2]; rfl
  | other h1 h2 h3 h4 =>
    have h5 : c ≠ 47 := fun e => by subst e; rw [sign47] at h4; cases h4
    rw [step_cons, if_neg (by simp [h1]), if_neg (by simp [h5]), if_neg (by simp [h2]), if_neg (by simp [h3]), if_neg (by simp [h4])]
theorem step_cut {c : UInt8} {s : List UInt8} {m : Nat} (hb : step (c :: s) ≠ .bad) (hl : (step (c :: s)).len ≤ m + 1) : step (c :: s.take m) = step (c :: s) := by
  have hi := step_is c s
  have e0 : ∀ p : UInt8 → Bool, ((c :: s).takeWhile p).length ≤ m + 1 → (c :: s.take m).takeWhile p = (c :: s).takeWhile p := fun p h => by
    have := tw_cut (p := p) (s := c :: s) (m := m + 1) h
    rwa [List.take_succ_cons] at this
  generalize hr : step (c :: s) = r at hi hb hl ⊢
  cases hi with
  | space h => exact step_space h _
  | comment h h2 =>
    subst h
    have hm : 1 ≤ m := by
      cases s with
      | nil => cases h2
      | cons d s =>
        have e : d = 47 := by simpa using h2
        subst e
        have : 2 ≤ (((47 : UInt8) :: 47 :: s).takeWhile lineB).length := by
          rw [List.takeWhile_cons, if_pos (by decide), List.takeWhile_cons, if_pos (by decide)]; simp
        simp only [St.len] at hl
        omega
    have hh : (s.take m).head? = some 47 := by
      cases s with
      | nil => cases h2
      | cons d s =>
        obtain ⟨k, rfl⟩ : ∃ k, m = k + 1 := ⟨m - 1, by omega⟩
        rw [List.take_succ_cons]; exact h2
    rw [step_cons, if_neg (by decide), if_pos ⟨rfl, hh⟩, e0 _ hl]
  | name h h2 =>
    obtain ⟨h3, -, -, h4, -, -⟩ := (class_cases c).1 h
    rw [step_cons, if_neg (by simp [h3]), if_neg (by simp [h4]), if_pos h, e0 _ hl, if_pos h2]
  | num h h2 =>
    obtain ⟨h3, h5, -, h4, -, -⟩ := (class_cases c).2.1 h
    rw [step_cons, if_neg (by simp [h3]), if_neg (by simp [h4]), if_neg (by simp [h5]), if_pos h, e0 _ hl, if_pos h2]
  | sign h h2 =>
    refine step_sign h fun e e2 => h2 e ?_
    cases s with
    | nil => simp at e2
    | cons d s =>
      cases m with
      | zero => simp at e2
      | succ k => rw [List.take_succ_cons] at e2; exact e2
  | badName _ _ => exact absurd rfl hb
  | badNum _ _ => exact absurd rfl hb
  | other _ _ _ _ => exact absurd rfl hb
/-- Where an error is: what stands before it has tokens; it remains, whatever is written behind; it is the first thing in what begins there. -/
theorem lex_wrong : ∀ (p : Nat) (s : List UInt8) (q : Nat), lexF p s = .error q → p ≤ q ∧ q - p < s.length ∧ (∃ l, lexF p (s.take (q - p)) = .ok l) ∧ (∀ u, lexF p (s ++ u) = .error q) ∧ ∀ p', lexF p' (s.drop (q - p)) = .error p' := by
  refine lex_ind (fun p q h => by rw [lexF_nil] at h; cases h) fun p c s ih q h => ?_
  by_cases hb : step (c :: s) = .bad
  · rw [lexF_bad hb] at h
    injection h with h
    subst h
    rw [Nat.sub_self]
    exact ⟨Nat.le_refl _, by simp, ⟨[], rfl⟩, fun u => lexF_bad (bad_app u hb), fun p' => lexF_bad hb⟩
  · have ih := ih hb
    have hl := step_len c s hb
    have key : ∀ q', lexF (p + (step (c :: s)).len) ((c :: s).drop (step (c :: s)).len) = .error q' → q' = q := by
      intro q' he
      cases hr : step (c :: s) with
      | bad => exact absurd hr hb
      | skip n =>
        rw [hr] at he
        rw [lexF_skip hr] at h
        have he : lexF (p + n) ((c :: s).drop n) = .error q' := he
        rw [he] at h; injection h
      | tok n k t v =>
        rw [hr] at he
        have he : lexF (p + n) ((c :: s).drop n) = .error q' := he
        rw [lexF_tok hr, he] at h; injection h
    have hex : ∃ q', lexF (p + (step (c :: s)).len) ((c :: s).drop (step (c :: s)).len) = .error q' := by
      cases hr : step (c :: s) with
      | bad => exact absurd hr hb
      | skip n => rw [lexF_skip hr] at h; exact ⟨q, h⟩
      | tok n k t v =>
        rw [lexF_tok hr] at h
        show ∃ q', lexF (p + n) ((c :: s).drop n) = .error q'
        cases he : lexF (p + n) ((c :: s).drop n) with
        | error q' => exact ⟨q', rfl⟩
        | ok l => rw [he] at h; cases h
    obtain ⟨q', he⟩ := hex
    have hq := key q' he
    subst hq
    obtain ⟨i1, i2, ⟨l, i3⟩, i4, i5⟩ := ih q' he
    rw [List.length_drop] at i2
    have hlt : (step (c :: s)).len < (c :: s).length := by omega
    have hm : q' - p = (step (c :: s)).len + (q' - (p + (step (c :: s)).len)) := by omega
    have hcut : (c :: s).take (q' - p) = c :: s.take (q' - p - 1) := by
      conv => lhs; rw [show q' - p = q' - p - 1 + 1 by omega]
      rw [List.take_succ_cons]
    have hsc := step_cut (c := c) (s := s) (m := q' - p - 1) hb (by omega)
    have hdrop : (c :: s.take (q' - p - 1)).drop (step (c :: s)).len = ((c :: s).drop (step (c :: s)).len).take (q' - (p + (step (c :: s)).len)) := by
      rw [← hcut, List.drop_take]
      congr 1
      omega
    refine ⟨by omega, by omega, ?_, fun u => ?_, fun p' => ?_⟩
    · rw [hcut]
      cases hr : step (c :: s) with
      | bad => exact absurd hr hb
      | skip n =>
        rw [hr] at hsc hdrop i3
        rw [lexF_skip hsc]
        simp only [St.len] at hdrop i3
        rw [hdrop, i3]; exact ⟨l, rfl⟩
      | tok n k t v =>
        rw [hr] at hsc hdrop i3
        rw [lexF_tok hsc]
        simp only [St.len] at hdrop i3
        rw [hdrop, i3]; exact ⟨_, rfl⟩
    · have hsa := step_app u hb hlt
      rw [List.cons_append] at hsa ⊢
      have hda : (c :: (s ++ u)).drop (step (c :: s)).len = (c :: s).drop (step (c :: s)).len ++ u := by
        rw [← List.cons_append, List.drop_append_of_le_length (by omega)]
      cases hr : step (c :: s) with
      | bad => exact absurd hr hb
      | skip n =>
        rw [hr] at hsa hda i4
        simp only [St.len] at hda i4
        rw [lexF_skip hsa, hda]; exact i4 u
      | tok n k t v =>
        rw [hr] at hsa hda i4
        simp only [St.len] at hda i4
        rw [lexF_tok hsa, hda, i4 u]; rfl
    · have := i5 p'
      rw [List.drop_drop] at this
      rw [hm]; exact this
end Go.Lx

/- Chapter 03, plain law: texts stand at their places. No program in sight. -/
namespace Go.Lx
/-- The bytes between tokens, one by one: is one in a comment (the state), and may it stand there? -/
def cmtF (cm : Bool) (c : UInt8) (s : List UInt8) : Bool := lineB c && (cm || decide (c = 47 ∧ s.head? = some 47))
def gapF : Bool → List UInt8 → Option Bool
  | cm, [] => some cm
  | cm, c :: s => if !cmtF cm c s && !spaceB c then none else gapF (cmtF cm c s) s
/-- Tokens stand at their places, and nothing else but white space and comments. -/
def placesF : Nat → Bool → List UInt8 → List TokD → Prop
  | _, cm, s, [] => ∃ b, gapF cm s = some b
  | p, cm, s, t :: l => ∃ a : Nat, t.at_ = ((p + a : Nat) : Int) ∧ a ≤ s.length ∧ gapF cm (s.take a) = some false ∧ word t ≠ [] ∧ (∃ r, s.drop a = word t ++ r ∧ placesF (p + a + (word t).length) false r l)
theorem gap_step {c : UInt8} (s : List UInt8) {cm : Bool} (hs : spaceB c = true) (hc : cm = true → c = 10) : gapF cm (c :: s) = gapF false s := by
  have h0 : c ≠ 47 := ((class_cases c).2.2.2 hs).2.2.2.2
  have : cmtF cm c s = false := by
    unfold cmtF
    cases cm with
    | false => rw [decide_eq_false (fun e => h0 e.1)]; simp
    | true => rw [hc rfl]; rfl
  rw [gapF, this, hs]; rfl
theorem gap_in : ∀ (w b : List UInt8), (∀ x ∈ w, lineB x = true) → gapF true (w ++ b) = gapF true b
  | [], _, _ => rfl
  | c :: w, b, h => by
    have hc := h c (by simp)
    rw [List.cons_append, gapF]
    have : cmtF true c (w ++ b) = true := by unfold cmtF; rw [hc]; rfl
    rw [this]
    exact gap_in w b fun x hx => h x (List.mem_cons_of_mem _ hx)
theorem gap_cmt (w b : List UInt8) (h : ∀ x ∈ w, lineB x = true) (cm : Bool) : gapF cm (47 :: 47 :: w ++ b) = gapF true b := by
  have : cmtF cm 47 (47 :: (w ++ b)) = true := by unfold cmtF; cases cm <;> rfl
  rw [List.cons_append, List.cons_append, gapF, this]
  have := gap_in (47 :: w) b fun x hx => by
    rcases List.mem_cons.1 hx with rfl | hx
    · decide
    · exact h x hx
  rw [List.cons_append] at this
  exact this
theorem places_shift {n : Nat} {cm cm' : Bool} {a s : List UInt8} (hn : a.length = n) (h : ∀ b, gapF cm (a ++ b) = gapF cm' b) : ∀ {p : Nat} {l : List TokD}, placesF (p + n) cm' s l → placesF p cm (a ++ s) l
  | p, [], ⟨b, hb⟩ => ⟨b, by rw [h]; exact hb⟩
  | p, t :: l, ⟨m, h1, h2, h3, h4, r, h5, h6⟩ => by
    refine ⟨n + m, by rw [h1, Nat.add_assoc], by rw [List.length_append]; omega, ?_, h4, r, ?_, ?_⟩
    · rw [List.take_append, List.take_of_length_le (by omega), h, show n + m - a.length = m by omega]; exact h3
    · rw [List.drop_append, List.drop_eq_nil_of_le (by omega), show n + m - a.length = m by omega]; exact h5
    · rw [show p + (n + m) = p + n + m by omega]; exact h6
theorem lex_places : ∀ (p : Nat) (s : List UInt8) (l : List TokD) (cm : Bool), lexF p s = .ok l → (cm = true → s = [] ∨ ∃ r, s = 10 :: r) → placesF p cm s l := by
  refine lex_ind (fun p l cm h _ => ?_) fun p c s ih l cm h hcm => ?_
  · rw [lexF_nil] at h; injection h with h; subst h; exact ⟨cm, rfl⟩
  · have hi := step_is c s
    cases hr : step (c :: s) with
    | bad => rw [lexF_bad hr] at h; cases h
    | skip n =>
      rw [hr] at ih hi
      rw [lexF_skip hr] at h
      have ih := ih (by simp)
      simp only [St.len] at ih
      cases hi with
      | space hs =>
        refine places_shift (a := [c]) (s := s) (cm' := false) rfl (fun b => gap_step b hs fun e => ?_) (ih l false h fun e => by cases e)
        rcases hcm e with h2 | ⟨r, h2⟩
        · cases h2
        · injection h2
      | comment h1 h2 =>
        subst h1
        obtain ⟨s', rfl⟩ : ∃ s', s = 47 :: s' := by
          cases s with
          | nil => cases h2
          | cons d s' => exact ⟨s', by rw [show d = 47 by simpa using h2]⟩
        have hcf : cm = false := by
          cases cm with
          | false => rfl
          | true =>
            rcases hcm rfl with h3 | ⟨r, h3⟩
            · cases h3
            · injection h3 with h4 _; cases h4
        subst hcf
        have ht : ((47 : UInt8) :: 47 :: s').takeWhile lineB = 47 :: 47 :: s'.takeWhile lineB := by
          rw [List.takeWhile_cons, if_pos (by decide), List.takeWhile_cons, if_pos (by decide)]
        have hsp : (47 : UInt8) :: 47 :: s' = (47 :: 47 :: s').takeWhile lineB ++ (47 :: 47 :: s').drop ((47 :: 47 :: s').takeWhile lineB).length := by
          conv => lhs; rw [← List.take_append_drop ((47 :: 47 :: s').takeWhile lineB).length (47 :: 47 :: s'), tw_take]
        rw [hsp]
        refine places_shift (cm' := true) rfl (fun b => ?_) (ih l true h fun _ => ?_)
        · rw [ht]; exact gap_cmt _ b tw_all false
        · cases hd : (47 :: 47 :: s').drop ((47 :: 47 :: s').takeWhile lineB).length with
          | nil => exact .inl rfl
          | cons d r =>
            have := tw_drop d r hd
            unfold lineB at this
            rw [decide_eq_false_iff_not] at this
            right
            exact ⟨r, by rw [show d = 10 from Classical.byContradiction fun e => this e]⟩
    | tok n k t v =>
      rw [hr] at ih hi
      rw [lexF_tok hr] at h
      have ih := ih (by simp)
      simp only [St.len] at ih
      have hcf : cm = false := by
        cases cm with
        | false => rfl
        | true =>
          rcases hcm rfl with h3 | ⟨r, h3⟩
          · cases h3
          · injection h3 with h4 _
            subst h4
            rw [step_space (by decide)] at hr; cases hr
      subst hcf
      cases he : lexF (p + n) ((c :: s).drop n) with
      | error q => rw [he] at h; cases h
      | ok m =>
        rw [he] at h
        injection h with h
        subst h
        have ih := ih m false he fun e => by cases e
        have hw : word ⟨k, t, v, p⟩ = (c :: s).take n ∧ n = ((c :: s).take n).length := by
          have hl := step_len c s (by rw [hr]; simp)
          rw [hr] at hl
          simp only [St.len] at hl
          refine ⟨?_, by rw [List.length_take]; omega⟩
          unfold word
          cases hi with
          | name h1 h2 => rw [if_neg (show ¬ (1 : Int) = 2 by decide), tw_take]
          | num h1 h2 =>
            rw [if_pos rfl, tw_take]
            show decF ((valF ((c :: s).takeWhile digitB) : Nat) : Int).toNat = _
            rw [Int.toNat_natCast]
            unfold numB at h2
            rw [Bool.and_eq_true, Bool.or_eq_true, decide_eq_true_iff, decide_eq_true_iff, decide_eq_true_iff] at h2
            refine val_dec _ tw_all (fun e => ?_) h2.2
            have := tw_pos (s := s) h1
            rw [e] at this; simp at this
          | sign h1 h2 => rw [if_neg (show ¬ (3 : Int) = 2 by decide)]; rfl
        have hl := step_len c s (by rw [hr]; simp)
        rw [hr] at hl
        simp only [St.len] at hl
        refine ⟨0, by simp, Nat.zero_le _, rfl, ?_, (c :: s).drop n, ?_, ?_⟩
        · rw [hw.1]; intro e
          have := hw.2
          rw [e] at this; simp at this; omega
        · show (c :: s).drop 0 = _
          rw [hw.1, List.drop_zero, List.take_append_drop]
        · rw [hw.1, ← hw.2, Nat.add_zero]; exact ih
end Go.Lx

/- Chapter 03: what the program and the specification answer, and the laws in these words. No program in sight. -/
namespace Go.Lx
/-- The specification's number: the digits' value, zero where it is too great. -/
def numR (n : Nat) : List UInt8 → Nat × Bool
  | [] => (n, true)
  | c :: s => if 1099511627776 < 10 * n + (c.toNat - 48) then (0, false) else numR (10 * n + (c.toNat - 48)) s
theorem numR_ok : ∀ (s : List UInt8) (n : Nat), n ≤ 1099511627776 → (numR n s).2 = decide (s.foldl (fun n c => 10 * n + (c.toNat - 48)) n ≤ 1099511627776) ∧ ((numR n s).2 = true → (numR n s).1 = s.foldl (fun n c => 10 * n + (c.toNat - 48)) n)
  | [], n, h => ⟨(decide_eq_true h).symm, fun _ => rfl⟩
  | c :: s, n, h => by
    rw [numR, List.foldl_cons]
    by_cases hb : 1099511627776 < 10 * n + (c.toNat - 48)
    · rw [if_pos hb]
      refine ⟨(decide_eq_false ?_).symm, fun e => by cases e⟩
      have key : ∀ (e : List UInt8) (n : Nat), n ≤ e.foldl (fun n c => 10 * n + (c.toNat - 48)) n := by
        intro e
        induction e with
        | nil => intro n; exact Nat.le_refl _
        | cons c e ih => intro n; exact Nat.le_trans (by omega) (ih (10 * n + (c.toNat - 48)))
      have := key s (10 * n + (c.toNat - 48))
      omega
    · rw [if_neg hb]; exact numR_ok s _ (by omega)
/-- What Lex answers. -/
def lexA (s : List UInt8) : List TokD × Int × Int := if 65536 < s.length then ([], 0, 2) else match lexF 0 s with
  | .ok l => (l, 0, 0)
  | .error p => ([], p, 30)
/-- What Text answers. -/
def textA (l : List TokD) : List UInt8 × Int := if l.all validB then (joinF (l.map word), 0) else ([], 30)
theorem sameL_refl (l : List TokD) : sameL l l = true := decide_eq_true rfl
/-- LexBack, first half. -/
theorem back_text {l : List TokD} (h : (textA l).2 = 0) (hlen : (textA l).1.length ≤ 65536) : ∃ m, lexA (textA l).1 = (m, 0, 0) ∧ sameL l m = true := by
  unfold textA at h hlen ⊢
  by_cases hv : l.all validB = true
  · rw [if_pos hv] at hlen ⊢
    obtain ⟨m, h1, h2⟩ := lex_join l 0 (List.all_eq_true.1 hv)
    refine ⟨m, ?_, h2⟩
    unfold lexA
    rw [if_neg (by omega), h1]
  · rw [if_neg hv] at h; cases h
theorem lexA_cases (s : List UInt8) (h : s.length ≤ 65536) : (∃ l, lexF 0 s = .ok l ∧ lexA s = (l, 0, 0)) ∨ ∃ p, lexF 0 s = .error p ∧ lexA s = ([], (p : Int), 30) := by
  unfold lexA
  rw [if_neg (by omega)]
  cases hl : lexF 0 s with
  | ok l => exact .inl ⟨l, rfl, rfl⟩
  | error p => exact .inr ⟨p, rfl, rfl⟩
/-- Words of what was read are no longer than the source. -/
theorem lex_len : ∀ (p : Nat) (s : List UInt8) (l : List TokD), lexF p s = .ok l → (l.map fun t => (word t).length).sum ≤ s.length := by
  intro p s l h
  have hp := lex_places p s l false h fun e => by cases e
  clear h
  have key : ∀ (l : List TokD) (p : Nat) (cm : Bool) (s : List UInt8), placesF p cm s l → (l.map fun t => (word t).length).sum ≤ s.length := by
    intro l
    induction l with
    | nil => intro p cm s _; exact Nat.zero_le _
    | cons t l ih =>
      intro p cm s h
      obtain ⟨a, _, h2, _, _, r, h5, h6⟩ := h
      have := ih _ _ _ h6
      have hl := congrArg List.length h5
      rw [List.length_drop, List.length_append] at hl
      rw [List.map_cons, List.sum_cons]
      omega
  exact key l p false s hp
end Go.Lx

/- Chapter 03: tokens in cells; Space, Sign, number of the specification. -/
-- STRINGS
-- ROWS
-- PRUNEC
-- IFACE
namespace Go.Fr
open Go.RowKit Go.Kx Go.Lx
def tokV (t : TokD) : List SP := [exI .i64 t.kind, exT t.text, exI .i64 t.n, exI .i64 t.at_]
instance {t : TokD} : Scs (tokV t) := by unfold tokV; infer_instance
instance : LenS tokV 4 := ⟨fun _ => rfl⟩
abbrev eTok : Enc TokD := encS tokV 4 40
end Go.Fr
namespace Go.Proofs.YtdpabdbeecbnmaaDoor
open Go Go.RowKit Go.Kx Go.Fr Go.Lx
theorem byte_all {P : UInt8 → Prop} (h : ∀ n : Fin 256, P (UInt8.ofNat n.val)) (c : UInt8) : P c := by
  have := h ⟨c.toNat, c.toNat_lt⟩
  rwa [show UInt8.ofNat c.toNat = c from UInt8.ofNat_toNat] at this
theorem letterF_eq (c : UInt8) : letterF c = letterB c := byte_all (P := fun c => letterF c = letterB c) (by decide +kernel) c
theorem figureF_eq (c : UInt8) : figureF c = digitB c := byte_all (P := fun c => figureF c = digitB c) (by decide +kernel) c
theorem partF_eq (c : UInt8) : partF c = partB c := byte_all (P := fun c => partF c = partB c) (by decide +kernel) c
theorem classF_eq (c : UInt8) : classF c = if letterB c then 2 else if digitB c then 3 else if c = 95 then 5 else if spaceB c then 1 else if signB c then 4 else 0 := byte_all (P := fun c => classF c = if letterB c then 2 else if digitB c then 3 else if c = 95 then 5 else if spaceB c then 1 else if signB c then 4 else 0) (by decide +kernel) c
theorem nameF_eq (s : List UInt8) : nameF s = nameB s := by
  unfold nameF nameB
  cases s with
  | nil => rfl
  | cons c s =>
    rw [show partF = partB from funext partF_eq, letterF_eq]
    simp
set_option maxRecDepth 100000 in
theorem r3space_any (c : UInt8) : FnC Tryd.prog 21 [exI .u8 c.toNat] [] (fun p loc => p = exB (spaceB c) ∧ loc = []) := by
  have h : spaceB c = decide (c.toNat = 32 ∨ c.toNat = 9 ∨ c.toNat = 10 ∨ c.toNat = 13) := byte_all (P := fun c => spaceB c = decide (c.toNat = 32 ∨ c.toNat = 9 ∨ c.toNat = 10 ∨ c.toNat = 13)) (by decide +kernel) c
  rw [h]
  refine FnC_enter Tryd.func21 rfl Tryd.ntmps21 rfl fun w0 F0 out => ?_
  (repeat' (first | refine WP_seq ?_ | refine WP_region ?_ | refine WPL_nil ?_ | (apply WPL_t; (first | exact WT_move rfl | exact WT_assign rfl | exact WT_pick (b := true) rfl (fun _ => rfl) (fun e => by cases e) | exact WT_pick (b := false) rfl (fun e => by cases e) (fun _ => rfl) | (apply g_bin; first | exact WT_eql rfl rfl)); exact rfl) | (refine WPL_off rfl rfl rfl rfl rfl ?_) | (apply WPL_gt; exact rfl; exact rfl; exact rfl; (first | exact WT_move rfl | (apply g_bin; first | exact WT_eql rfl rfl)); exact rfl) | refine WP_ret ?_ | (refine WPL_case rfl rfl (fun hb => ?_) (fun hb => ?_) <;> (repeat (first | replace hb := dec_t hb | replace hb := dec_f hb)) <;> (try (exfalso; first | fail)))))
  all_goals (refine ⟨.inr rfl, ret1 rfl (.tmp rfl) (List.nil_sublist _) ⟨congrArg exB ?_, rfl⟩⟩)
  all_goals (rw [Bool.eq_iff_iff]; simp only [decide_eq_true_eq, true_iff]; omega)
set_option maxRecDepth 100000 in
theorem r3sign_any (c : UInt8) : FnC Tryd.prog 34 [exI .u8 c.toNat] [] (fun p loc => p = exB (signB c) ∧ loc = []) := by
  have h16 : signL.length = 16 := rfl
  refine FnC_enter Tryd.func34 rfl Tryd.ntmps34 rfl fun w0 F0 out => ?_
  (repeat' (first | refine WP_seq ?_ | refine WP_region ?_ | refine WPL_nil ?_ | (apply WPL_t; (first | exact WT_assign rfl); exact rfl) | refine WP_block ?_))
  refine WP_loop (fun i : Nat => ([(0, exI .u8 (c.toNat : Int)), (3, exT signL), (4, exI .i64 (i : Int))], [])) (fun i => i ≤ signL.length ∧ ∀ j, (h : j < signL.length) → j < i → signL[j] ≠ c) (fun i => signL.length - i) 0 ?_ ⟨Nat.zero_le _, fun j _ h => by omega⟩ fun i hi => ?_
  · exact Leads_env (by repeat (first | exact sub_nil | refine sub_cons rfl ?_)) (List.Sublist.refl _)
  obtain ⟨hi, hpre⟩ := hi
  by_cases hlt : i < signL.length
  · by_cases he : signL[i] = c
    · have hv : signB c = true := decide_eq_true (he ▸ List.getElem_mem hlt)
      rw [hv]
      have hn : (signL[i].toNat : Int) = (c.toNat : Int) := by rw [he]
      clear hpre
      (repeat' (first | refine WP_seq ?_ | refine WP_region ?_ | refine WPL_nil ?_ | (apply WPL_t; (first | exact WT_move rfl | exact WT_assign rfl | (apply g_bin; first | exact WT_lss rfl rfl | exact WT_eql rfl rfl) | (apply g_call; first | exact WT_lent rfl rfl) | (apply g_idxt; first | exact WT_idxt rfl rfl rfl)); exact rfl) | refine WP_block ?_ | refine WP_skip ?_ | refine WP_ret ?_ | (refine WP_cond rfl (fun hb => ?_) (fun hb => ?_) <;> (repeat (first | replace hb := dec_t hb | replace hb := dec_f hb)) <;> (try (exfalso; first | contradiction | omega)))))
      all_goals (try (exfalso; first | contradiction | omega))
      all_goals exact ⟨.inr rfl, ret1 rfl (.tmp rfl) (List.nil_sublist _) ⟨rfl, rfl⟩⟩
    · have hn : ¬ (signL[i].toNat : Int) = (c.toNat : Int) := fun e => he (UInt8.toNat_inj.1 (by omega))
      have hok : ∀ j, (h : j < signL.length) → j < i + 1 → signL[j] ≠ c := fun j h hj => by
        by_cases hji : j = i
        · subst hji; exact he
        · exact hpre j h (by omega)
      clear hpre
      (repeat' (first | refine WP_seq ?_ | refine WP_region ?_ | refine WPL_nil ?_ | (apply WPL_t; (first | exact WT_move rfl | exact WT_assign rfl | (apply g_bin; first | exact WT_lss rfl rfl | exact WT_eql rfl rfl | exact WT_add rfl rfl) | (apply g_call; first | exact WT_lent rfl rfl) | (apply g_idxt; first | exact WT_idxt rfl rfl rfl)); exact rfl) | refine WP_block ?_ | refine WP_skip ?_ | (refine WP_cond rfl (fun hb => ?_) (fun hb => ?_) <;> (repeat (first | replace hb := dec_t hb | replace hb := dec_f hb)) <;> (try (exfalso; first | contradiction | omega)))))
      all_goals (try (exfalso; first | contradiction | omega))
      all_goals exact ⟨i + 1, ⟨by omega, hok⟩, by omega, Leads_env (by repeat (first | exact sub_nil | refine sub_cons rfl ?_)) (List.Sublist.refl _)⟩
  · have hv : signB c = false := decide_eq_false fun hm => by
      obtain ⟨j, hj, e⟩ := List.getElem_of_mem hm
      exact hpre j hj (by omega) e
    rw [hv]
    clear hpre
    (repeat' (first | refine WP_seq ?_ | refine WP_region ?_ | refine WPL_nil ?_ | (apply WPL_t; (first | exact WT_move rfl | exact WT_assign rfl | (apply g_bin; first | exact WT_lss rfl rfl) | (apply g_call; first | exact WT_lent rfl rfl)); exact rfl) | refine WP_ret ?_ | refine WP_exit ?_ | (refine WP_cond rfl (fun hb => ?_) (fun hb => ?_) <;> (repeat (first | replace hb := dec_t hb | replace hb := dec_f hb)) <;> (try (exfalso; first | omega)))))
    all_goals (try (exfalso; omega))
    exact ⟨.inr rfl, ret1 rfl (.tmp rfl) (List.nil_sublist _) ⟨rfl, rfl⟩⟩
set_option maxHeartbeats 1000000 in
set_option maxRecDepth 100000 in
theorem r3number_any (s : List UInt8) (hd : ∀ c ∈ s, digitB c = true) (hne : s ≠ []) (hmax : s.length ≤ 65536) : FnC Tryd.prog 33 [exT s] [] (fun p loc => p = tup [exI .i64 (((numR 0 s).1 : Nat) : Int), exB (numB s)] ∧ loc = []) := by
  have hlen : 0 < s.length := List.length_pos_iff.2 hne
  refine FnC_enter Tryd.func33 rfl Tryd.ntmps33 rfl fun w0 F0 out => ?_
  (repeat' (first | refine WP_seq ?_ | refine WP_region ?_ | refine WPL_nil ?_ | (apply WPL_t; (first | exact WT_assign rfl); exact rfl) | refine WP_block ?_))
  refine WP_loop (fun x : Nat × Nat => ([(0, exT s), (4, exI .i64 (x.2 : Int)), (5, exI .i64 (x.1 : Int))], [])) (fun x => x.1 ≤ s.length ∧ x.2 ≤ 1099511627776 ∧ numR 0 s = numR x.2 (s.drop x.1)) (fun x => s.length - x.1) (0, 0) ?_ ⟨Nat.zero_le _, Nat.zero_le _, rfl⟩ fun x hx => ?_
  · exact Leads_env (by repeat (first | exact sub_nil | refine sub_cons rfl ?_)) (List.Sublist.refl _)
  obtain ⟨i, n⟩ := x
  obtain ⟨hi, hn, hr⟩ := hx
  simp only at hi hn hr ⊢
  by_cases hlt : i < s.length
  · have hdi := hd _ (List.getElem_mem hlt)
    unfold digitB inR at hdi
    have hdi := of_decide_eq_true hdi
    rw [List.drop_eq_getElem_cons hlt, numR] at hr
    have hsub : ((s[i].toNat - 48 : Nat) : Int) = (s[i].toNat : Int) - 48 := by omega
    by_cases hb : 1099511627776 < 10 * n + (s[i].toNat - 48)
    · rw [if_pos hb] at hr
      have hnb : numB s = false := by
        have := (numR_ok s 0 (by decide)).1
        rw [hr] at this
        unfold numB valF
        rw [← this]; rfl
      rw [hnb, hr]
      (repeat' (first | refine WP_seq ?_ | refine WP_region ?_ | refine WPL_nil ?_ | (apply WPL_t; (first | exact WT_move rfl | exact WT_assign rfl | (apply g_bin; first | exact WT_lss rfl rfl | exact WT_gtr rfl rfl | exact WT_add rfl rfl | exact WT_sub rfl rfl | exact WT_mul rfl rfl) | (apply g_conv; first | exact WT_conv rfl rfl rfl) | (apply g_call; first | exact WT_lent rfl rfl) | (apply g_idxt; first | exact WT_idxt rfl rfl rfl)); exact rfl) | refine WP_block ?_ | refine WP_skip ?_ | refine WP_ret ?_ | (refine WP_cond rfl (fun hb => ?_) (fun hb => ?_) <;> (repeat (first | replace hb := dec_t hb | replace hb := dec_f hb)) <;> (try (exfalso; first | omega)))))
      all_goals (try (exfalso; first | contradiction | omega))
      all_goals exact ⟨.inr rfl, ret2 rfl (.tmp rfl) (.tmp rfl) (List.nil_sublist _) ⟨rfl, rfl⟩⟩
    · rw [if_neg hb] at hr
      (repeat' (first | refine WP_seq ?_ | refine WP_region ?_ | refine WPL_nil ?_ | (apply WPL_t; (first | exact WT_move rfl | exact WT_assign rfl | (apply g_bin; first | exact WT_lss rfl rfl | exact WT_gtr rfl rfl | exact WT_add rfl rfl | exact WT_sub rfl rfl | exact WT_mul rfl rfl) | (apply g_conv; first | exact WT_conv rfl rfl rfl) | (apply g_call; first | exact WT_lent rfl rfl) | (apply g_idxt; first | exact WT_idxt rfl rfl rfl)); exact rfl) | refine WP_block ?_ | refine WP_skip ?_ | (refine WP_cond rfl (fun hb => ?_) (fun hb => ?_) <;> (repeat (first | replace hb := dec_t hb | replace hb := dec_f hb)) <;> (try (exfalso; first | omega)))))
      all_goals (try (exfalso; first | contradiction | omega))
      have e : ((10 * n + (s[i].toNat - 48) : Nat) : Int) = 10 * (n : Int) + ((s[i].toNat : Int) - 48) := by omega
      refine ⟨(i + 1, 10 * n + (s[i].toNat - 48)), ⟨by show i + 1 ≤ _; omega, by show 10 * n + _ ≤ _; omega, hr⟩, by show s.length - (i + 1) < s.length - i; omega, ?_⟩
      simp only [e]
      exact Leads_env (by repeat (first | exact sub_nil | refine sub_cons rfl ?_)) (List.Sublist.refl _)
  · have hie : i = s.length := by omega
    subst hie
    rw [List.drop_length, numR] at hr
    have hnb : numB s = (decide (s.length = 1) || decide (s.head? ≠ some 48)) := by
      have := (numR_ok s 0 (by decide)).1
      rw [hr] at this
      unfold numB valF
      rw [← this]; rfl
    rw [hnb, hr]
    have h0 : s.head? = some s[0] := by rw [List.head?_eq_getElem?, List.getElem?_eq_getElem hlen]
    (repeat' (first | (apply cut_at 8; refine Stop.out ?_) | refine WP_seq ?_ | refine WP_region ?_ | refine WPL_nil ?_ | (apply WPL_t; (first | exact WT_move rfl | (apply g_bin; first | exact WT_lss rfl rfl) | (apply g_call; first | exact WT_lent rfl rfl)); exact rfl) | refine WP_exit ?_ | (refine WP_cond rfl (fun hb => ?_) (fun hb => ?_) <;> (repeat (first | replace hb := dec_t hb | replace hb := dec_f hb)) <;> (try (exfalso; first | omega)))))
    all_goals (try (exfalso; first | contradiction | omega))
    refine ⟨WP_seq ?_⟩
    (refine WP_drawl 11 rfl ?_)
    all_goals ((apply WPY_pure 0 rfl (by decide +kernel) rfl (by repeat (first | exact np_ret)) guard_none; (first | exact WT_move rfl); exact rfl))
    all_goals ((apply WPY_pure 1 rfl (by decide +kernel) rfl (by repeat (first | exact np_ret)) guard_none; (first | exact WT_move rfl); exact rfl))
    all_goals ((apply WPY_pure 2 rfl (by decide +kernel) rfl (by repeat (first | exact np_ret)) guard_none; (first | (apply g_call; first | exact WT_lent rfl rfl)); exact rfl))
    all_goals ((apply WPY_pure 3 rfl (by decide +kernel) rfl (by repeat (first | exact np_ret)) guard_none; (first | (apply g_bin; first | exact WT_eql rfl rfl)); exact rfl))
    all_goals ((apply WPY_pure 4 rfl (by decide +kernel) rfl (by repeat (first | exact np_ret)) guard_none; (first | exact WT_move rfl); exact rfl))
    all_goals (first | (refine WPY_case 26 rfl (fun hb => ?_) (fun hb => ?_) <;> (repeat (first | replace hb := dec_t hb | replace hb := dec_f hb | replace hb := not_t hb | replace hb := not_f hb)) <;> (try (exfalso; first | (cases hb; done) | contradiction | omega))) | skip)
    all_goals (first | (refine WPY_off 5 rfl (by decide +kernel) rfl (by repeat (first | exact np_ret)) rfl rfl rfl rfl rfl ?_) | (apply WPY_pure 5 rfl (by decide +kernel) rfl (by repeat (first | exact np_ret)) (guard_some rfl rfl rfl); (first | exact WT_move rfl); exact rfl))
    all_goals (first | (refine WPY_off 6 rfl (by decide +kernel) rfl (by repeat (first | exact np_ret)) rfl rfl rfl rfl rfl ?_) | (apply WPY_pure 6 rfl (by decide +kernel) rfl (by repeat (first | exact np_ret)) (guard_some rfl rfl rfl); (first | (apply g_idxt; first | exact WT_idxt rfl rfl rfl)); exact rfl))
    all_goals (first | (refine WPY_off 7 rfl (by decide +kernel) rfl (by repeat (first | exact np_ret)) rfl rfl rfl rfl rfl ?_) | (apply WPY_pure 7 rfl (by decide +kernel) rfl (by repeat (first | exact np_ret)) (guard_some rfl rfl rfl); (first | (apply g_bin; first | exact WT_neq rfl rfl)); exact rfl))
    all_goals ((apply WPY_pure 8 rfl (by decide +kernel) rfl (by repeat (first | exact np_ret)) guard_none; (first | exact WT_pick (b := true) rfl (fun _ => rfl) (fun e => by cases e) | exact WT_pick (b := false) rfl (fun e => by cases e) (fun _ => rfl)); exact rfl))
    all_goals ((apply WPY_pure 9 rfl (by decide +kernel) rfl (by repeat (first | exact np_ret)) guard_none; (first | exact WT_assign rfl); exact rfl))
    all_goals ((apply WPY_pure 10 rfl (by decide +kernel) rfl (by repeat (first | exact np_ret)) guard_none; (first | exact WT_assign rfl); exact rfl))
    all_goals (refine WPY_done (by decide +kernel) ?_)
    all_goals ((repeat' (first | refine WP_ret ?_)))
    all_goals (refine ⟨.inr rfl, ret2 rfl (.tmp rfl) (.tmp rfl) (List.nil_sublist _) ⟨?_, rfl⟩⟩)
    · rw [decide_eq_true (by omega)]; rfl
    · rw [decide_eq_false (show ¬ s.length = 1 by omega), Bool.false_or]
      have e : (!decide ((s[0].toNat : Int) = 48)) = decide (s.head? ≠ some 48) := by
        rw [h0]
        have h1 : s[0] = 48 ↔ (s[0].toNat : Int) = 48 := ⟨fun h => by rw [h]; rfl, fun h => UInt8.toNat_inj.1 (show s[0].toNat = 48 by omega)⟩
        by_cases h2 : s[0] = 48
        · rw [decide_eq_true (h1.1 h2), decide_eq_false (by simp [h2])]; rfl
        · rw [decide_eq_false (fun h => h2 (h1.2 h)), decide_eq_true (by simpa using h2)]; rfl
      rw [e]
end Go.Proofs.YtdpabdbeecbnmaaDoor

/- Chapter 03: Valid of the specification; valid of the program. -/
-- STRINGS
-- ROWS
-- PRUNEC
-- IFACE
namespace Go.Proofs.YtdpabdbeecbnmaaDoor
open Go Go.RowKit Go.Kx Go.Fr Go.Lx
set_option maxHeartbeats 1000000 in
set_option maxRecDepth 100000 in
theorem r3valid_any (t : TokD) : FnC Tryd.prog 38 [agg (tokV t)] [] (fun p loc => p = exB (validB t) ∧ loc = []) := by
  unfold tokV
  have hv : validB t = if t.kind = 1 then nameB t.text && decide (t.n = 0) else if t.kind = 2 then decide (t.text = []) && decide (0 ≤ t.n ∧ t.n ≤ 1099511627776) else if t.kind = 3 then decide (t.text.length = 1) && (((t.text.head?).map signB).getD false && decide (t.n = 0)) else false := rfl
  rw [hv]
  clear hv
  have hnm := r3name_any t.text
  rw [nameF_eq] at hnm
  refine FnC_enter Tryd.func38 rfl Tryd.ntmps38 rfl fun w0 F0 out => ?_
  (repeat' (first | (apply cuts_at 1; refine Stop.out ?_) | refine WP_seq ?_ | refine WP_region ?_ | refine WPL_nil ?_ | (apply WPL_t; (first | exact WT_assign rfl); exact rfl) | (apply WPL_op0; exact rfl; first | (apply g_box; refine WO_box rfl ?_; intro _))))
  refine ⟨WP_leads (Leads_fp (k := 0) (t := 1) rfl rfl) ?_⟩
  by_cases h1 : t.kind = 1
  · rw [if_pos h1]
    generalize nameB t.text = nb at hnm ⊢
    cases nb
    · (repeat' (first | refine WP_seq ?_ | refine WP_region ?_ | refine WPL_nil ?_ | (apply WPL_t; (first | exact WT_move rfl | exact WT_assign rfl | exact WT_pick (b := false) rfl (fun e => by cases e) (fun _ => rfl) | (apply g_load; first | exact WT_loadf rfl rfl) | (apply g_fld; first | exact WT_fieldf rfl rfl rfl) | (apply g_bin; first | exact WT_eql rfl rfl)); exact rfl) | (refine WPL_off rfl rfl rfl rfl rfl ?_) | refine WP_block ?_ | refine WP_ret ?_ | (apply WPL_op0; exact rfl; first | (apply g_callf; first | (refine WO_call Tryd.func20 rfl hnm rfl ?_; rintro _ _ ⟨rfl, rfl⟩))) | (refine WP_cond rfl (fun hb => ?_) (fun hb => ?_) <;> (repeat (first | replace hb := dec_t hb | replace hb := dec_f hb)) <;> (try (exfalso; first | contradiction)))))
      all_goals (try (exfalso; first | contradiction | omega))
      all_goals exact ⟨.inr rfl, ret1 rfl (.tmp rfl) (List.nil_sublist _) ⟨rfl, rfl⟩⟩
    · rw [Bool.true_and]
      (repeat' (first | refine WP_seq ?_ | refine WP_region ?_ | refine WPL_nil ?_ | (apply WPL_t; (first | exact WT_move rfl | exact WT_assign rfl | exact WT_pick (b := true) rfl (fun _ => rfl) (fun e => by cases e) | (apply g_load; first | exact WT_loadf rfl rfl) | (apply g_fld; first | exact WT_fieldf rfl rfl rfl) | (apply g_bin; first | exact WT_eql rfl rfl)); exact rfl) | (apply WPL_gt; exact rfl; exact rfl; exact rfl; (first | (apply g_load; first | exact WT_loadf rfl rfl) | (apply g_fld; first | exact WT_fieldf rfl rfl rfl) | (apply g_bin; first | exact WT_eql rfl rfl)); exact rfl) | refine WP_block ?_ | refine WP_ret ?_ | (apply WPL_op0; exact rfl; first | (apply g_callf; first | (refine WO_call Tryd.func20 rfl hnm rfl ?_; rintro _ _ ⟨rfl, rfl⟩))) | (refine WP_cond rfl (fun hb => ?_) (fun hb => ?_) <;> (repeat (first | replace hb := dec_t hb | replace hb := dec_f hb)) <;> (try (exfalso; first | contradiction)))))
      all_goals (try (exfalso; first | contradiction | omega))
      all_goals exact ⟨.inr rfl, ret1 rfl (.tmp rfl) (List.nil_sublist _) ⟨rfl, rfl⟩⟩
  rw [if_neg h1]
  by_cases h2 : t.kind = 2
  · rw [if_pos h2]
    (repeat' (first | refine WP_seq ?_ | refine WP_region ?_ | refine WPL_nil ?_ | (apply WPL_t; (first | exact WT_move rfl | exact WT_assign rfl | exact WT_pick (b := true) rfl (fun _ => rfl) (fun e => by cases e) | exact WT_pick (b := false) rfl (fun e => by cases e) (fun _ => rfl) | (apply g_load; first | exact WT_loadf rfl rfl) | (apply g_fld; first | exact WT_fieldf rfl rfl rfl) | (apply g_bin; first | exact WT_teq rfl rfl | exact WT_eql rfl rfl)); exact rfl) | (refine WPL_off rfl rfl rfl rfl rfl ?_) | (apply WPL_gt; exact rfl; exact rfl; exact rfl; (first | (apply g_load; first | exact WT_loadf rfl rfl) | (apply g_fld; first | exact WT_fieldf rfl rfl rfl) | (apply g_bin; first | exact WT_leq rfl rfl | exact WT_geq rfl rfl)); exact rfl) | refine WP_block ?_ | refine WP_ret ?_ | (refine WPL_case rfl rfl (fun hb => ?_) (fun hb => ?_) <;> (repeat (first | replace hb := dec_t hb | replace hb := dec_f hb)) <;> (try (exfalso; first | fail))) | (refine WP_cond rfl (fun hb => ?_) (fun hb => ?_) <;> (repeat (first | replace hb := dec_t hb | replace hb := dec_f hb)) <;> (try (exfalso; first | contradiction)))))
    all_goals (try (exfalso; first | contradiction | omega))
    all_goals (refine ⟨.inr rfl, ret1 rfl (.tmp rfl) (List.nil_sublist _) ⟨congrArg exB ?_, rfl⟩⟩)
    all_goals (first | (rw [decide_eq_true (p := t.text = []) (by assumption), Bool.true_and]; first | exact decide_eq_decide.2 (by omega) | exact (decide_eq_false (by omega)).symm) | (rw [decide_eq_false (p := t.text = []) (by assumption)]; rfl))
  rw [if_neg h2]
  by_cases h3 : t.kind = 3
  · rw [if_pos h3]
    by_cases hl : t.text.length = 1
    · rw [decide_eq_true hl, Bool.true_and]
      have hd : t.text.head? = some t.text[0] := by rw [List.head?_eq_getElem?, List.getElem?_eq_getElem (by omega)]
      rw [hd]
      have hsg := r3sign_any t.text[0]
      rw [Option.map_some, Option.getD_some]
      generalize signB t.text[0] = sb at hsg ⊢
      cases sb
      · (repeat' (first | refine WP_seq ?_ | refine WP_region ?_ | refine WPL_nil ?_ | (apply WPL_t; (first | exact WT_move rfl | exact WT_assign rfl | exact WT_pick (b := true) rfl (fun _ => rfl) (fun e => by cases e) | exact WT_pick (b := false) rfl (fun e => by cases e) (fun _ => rfl) | (apply g_load; first | exact WT_loadf rfl rfl) | (apply g_fld; first | exact WT_fieldf rfl rfl rfl) | (apply g_bin; first | exact WT_eql rfl rfl) | (apply g_call; first | exact WT_lent rfl rfl)); exact rfl) | (refine WPL_off rfl rfl rfl rfl rfl ?_) | (apply WPL_gt; exact rfl; exact rfl; exact rfl; (first | (apply g_load; first | exact WT_loadf rfl rfl) | (apply g_fld; first | exact WT_fieldf rfl rfl rfl) | (apply g_idxt; first | exact WT_idxt rfl rfl rfl)); exact rfl) | refine WP_block ?_ | refine WP_ret ?_ | (apply WPL_on0; exact rfl; exact rfl; exact rfl; exact rfl; (apply g_callf; first | (refine WO_call Tryd.func34 rfl hsg rfl ?_; rintro _ _ ⟨rfl, rfl⟩))) | (refine WPL_case rfl rfl (fun hb => ?_) (fun hb => ?_) <;> (repeat (first | replace hb := dec_t hb | replace hb := dec_f hb)) <;> (try (exfalso; first | omega))) | (refine WP_cond rfl (fun hb => ?_) (fun hb => ?_) <;> (repeat (first | replace hb := dec_t hb | replace hb := dec_f hb)) <;> (try (exfalso; first | contradiction)))))
        all_goals (try (exfalso; first | contradiction | omega))
        all_goals exact ⟨.inr rfl, ret1 rfl (.tmp rfl) (List.nil_sublist _) ⟨rfl, rfl⟩⟩
      · rw [Bool.true_and]
        (repeat' (first | refine WP_seq ?_ | refine WP_region ?_ | refine WPL_nil ?_ | (apply WPL_t; (first | exact WT_move rfl | exact WT_assign rfl | exact WT_pick (b := true) rfl (fun _ => rfl) (fun e => by cases e) | (apply g_load; first | exact WT_loadf rfl rfl) | (apply g_fld; first | exact WT_fieldf rfl rfl rfl) | (apply g_bin; first | exact WT_eql rfl rfl) | (apply g_call; first | exact WT_lent rfl rfl)); exact rfl) | (apply WPL_gt; exact rfl; exact rfl; exact rfl; (first | (apply g_load; first | exact WT_loadf rfl rfl) | (apply g_fld; first | exact WT_fieldf rfl rfl rfl) | (apply g_bin; first | exact WT_eql rfl rfl) | (apply g_idxt; first | exact WT_idxt rfl rfl rfl)); exact rfl) | refine WP_block ?_ | refine WP_ret ?_ | (apply WPL_on0; exact rfl; exact rfl; exact rfl; exact rfl; (apply g_callf; first | (refine WO_call Tryd.func34 rfl hsg rfl ?_; rintro _ _ ⟨rfl, rfl⟩))) | (refine WPL_case rfl rfl (fun hb => ?_) (fun hb => ?_) <;> (repeat (first | replace hb := dec_t hb | replace hb := dec_f hb)) <;> (try (exfalso; first | omega))) | (refine WP_cond rfl (fun hb => ?_) (fun hb => ?_) <;> (repeat (first | replace hb := dec_t hb | replace hb := dec_f hb)) <;> (try (exfalso; first | contradiction)))))
        all_goals (try (exfalso; first | contradiction | omega))
        all_goals exact ⟨.inr rfl, ret1 rfl (.tmp rfl) (List.nil_sublist _) ⟨rfl, rfl⟩⟩
    · rw [decide_eq_false hl, Bool.false_and]
      (repeat' (first | refine WP_seq ?_ | refine WP_region ?_ | refine WPL_nil ?_ | (apply WPL_t; (first | exact WT_move rfl | exact WT_assign rfl | exact WT_pick (b := false) rfl (fun e => by cases e) (fun _ => rfl) | (apply g_load; first | exact WT_loadf rfl rfl) | (apply g_fld; first | exact WT_fieldf rfl rfl rfl) | (apply g_bin; first | exact WT_eql rfl rfl) | (apply g_call; first | exact WT_lent rfl rfl)); exact rfl) | (refine WPL_off rfl rfl rfl rfl rfl ?_) | refine WP_block ?_ | refine WP_ret ?_ | (refine WPL_case rfl rfl (fun hb => ?_) (fun hb => ?_) <;> (repeat (first | replace hb := dec_t hb | replace hb := dec_f hb)) <;> (try (exfalso; first | omega))) | (refine WP_cond rfl (fun hb => ?_) (fun hb => ?_) <;> (repeat (first | replace hb := dec_t hb | replace hb := dec_f hb)) <;> (try (exfalso; first | contradiction)))))
      all_goals (try (exfalso; first | contradiction | omega))
      all_goals exact ⟨.inr rfl, ret1 rfl (.tmp rfl) (List.nil_sublist _) ⟨rfl, rfl⟩⟩
  · rw [if_neg h3]
    (repeat' (first | refine WP_seq ?_ | refine WP_region ?_ | refine WPL_nil ?_ | (apply WPL_t; (first | exact WT_assign rfl | (apply g_load; first | exact WT_loadf rfl rfl) | (apply g_fld; first | exact WT_fieldf rfl rfl rfl) | (apply g_bin; first | exact WT_eql rfl rfl)); exact rfl) | refine WP_block ?_ | refine WP_skip ?_ | refine WP_ret ?_ | (refine WP_cond rfl (fun hb => ?_) (fun hb => ?_) <;> (repeat (first | replace hb := dec_t hb | replace hb := dec_f hb)) <;> (try (exfalso; first | contradiction)))))
    all_goals (try (exfalso; first | contradiction | omega))
    all_goals exact ⟨.inr rfl, ret1 rfl (.tmp rfl) (List.nil_sublist _) ⟨rfl, rfl⟩⟩
set_option maxHeartbeats 1000000 in
set_option maxRecDepth 100000 in
theorem valid_any (t : TokD) : FnC Tryd.prog 35 [agg (tokV t)] [] (fun p loc => p = exB (validB t) ∧ loc = []) := by
  unfold tokV
  have hv : validB t = if t.kind = 1 then nameB t.text && decide (t.n = 0) else if t.kind = 2 then decide (t.text = []) && decide (0 ≤ t.n ∧ t.n ≤ 1099511627776) else if t.kind = 3 then decide (t.text.length = 1) && (((t.text.head?).map signB).getD false && decide (t.n = 0)) else false := rfl
  rw [hv]
  clear hv
  have hnm := name_any t.text
  rw [nameF_eq] at hnm
  refine FnC_enter Tryd.func35 rfl Tryd.ntmps35 rfl fun w0 F0 out => ?_
  (repeat' (first | (apply cuts_at 1; refine Stop.out ?_) | refine WP_seq ?_ | refine WP_region ?_ | refine WPL_nil ?_ | (apply WPL_t; (first | exact WT_assign rfl); exact rfl) | (apply WPL_op0; exact rfl; first | (apply g_box; refine WO_box rfl ?_; intro _))))
  refine ⟨WP_leads (Leads_fp (k := 0) (t := 1) rfl rfl) ?_⟩
  by_cases h1 : t.kind = 1
  · rw [if_pos h1]
    generalize nameB t.text = nb at hnm ⊢
    cases nb
    · (repeat' (first | refine WP_seq ?_ | refine WP_region ?_ | refine WPL_nil ?_ | (apply WPL_t; (first | exact WT_move rfl | exact WT_assign rfl | exact WT_pick (b := false) rfl (fun e => by cases e) (fun _ => rfl) | (apply g_load; first | exact WT_loadf rfl rfl) | (apply g_fld; first | exact WT_fieldf rfl rfl rfl) | (apply g_bin; first | exact WT_eql rfl rfl)); exact rfl) | (refine WPL_off rfl rfl rfl rfl rfl ?_) | refine WP_block ?_ | refine WP_ret ?_ | (apply WPL_op0; exact rfl; first | (apply g_callf; first | (refine WO_call Tryd.func19 rfl hnm rfl ?_; rintro _ _ ⟨rfl, rfl⟩))) | (refine WP_cond rfl (fun hb => ?_) (fun hb => ?_) <;> (repeat (first | replace hb := dec_t hb | replace hb := dec_f hb)) <;> (try (exfalso; first | contradiction)))))
      all_goals (try (exfalso; first | contradiction | omega))
      all_goals exact ⟨.inr rfl, ret1 rfl (.tmp rfl) (List.nil_sublist _) ⟨rfl, rfl⟩⟩
    · rw [Bool.true_and]
      (repeat' (first | refine WP_seq ?_ | refine WP_region ?_ | refine WPL_nil ?_ | (apply WPL_t; (first | exact WT_move rfl | exact WT_assign rfl | exact WT_pick (b := true) rfl (fun _ => rfl) (fun e => by cases e) | (apply g_load; first | exact WT_loadf rfl rfl) | (apply g_fld; first | exact WT_fieldf rfl rfl rfl) | (apply g_bin; first | exact WT_eql rfl rfl)); exact rfl) | (apply WPL_gt; exact rfl; exact rfl; exact rfl; (first | (apply g_load; first | exact WT_loadf rfl rfl) | (apply g_fld; first | exact WT_fieldf rfl rfl rfl) | (apply g_bin; first | exact WT_eql rfl rfl)); exact rfl) | refine WP_block ?_ | refine WP_ret ?_ | (apply WPL_op0; exact rfl; first | (apply g_callf; first | (refine WO_call Tryd.func19 rfl hnm rfl ?_; rintro _ _ ⟨rfl, rfl⟩))) | (refine WP_cond rfl (fun hb => ?_) (fun hb => ?_) <;> (repeat (first | replace hb := dec_t hb | replace hb := dec_f hb)) <;> (try (exfalso; first | contradiction)))))
      all_goals (try (exfalso; first | contradiction | omega))
      all_goals exact ⟨.inr rfl, ret1 rfl (.tmp rfl) (List.nil_sublist _) ⟨rfl, rfl⟩⟩
  rw [if_neg h1]
  by_cases h2 : t.kind = 2
  · rw [if_pos h2]
    (repeat' (first | refine WP_seq ?_ | refine WP_region ?_ | refine WPL_nil ?_ | (apply WPL_t; (first | exact WT_move rfl | exact WT_assign rfl | exact WT_pick (b := true) rfl (fun _ => rfl) (fun e => by cases e) | exact WT_pick (b := false) rfl (fun e => by cases e) (fun _ => rfl) | (apply g_load; first | exact WT_loadf rfl rfl) | (apply g_fld; first | exact WT_fieldf rfl rfl rfl) | (apply g_bin; first | exact WT_teq rfl rfl | exact WT_eql rfl rfl)); exact rfl) | (refine WPL_off rfl rfl rfl rfl rfl ?_) | (apply WPL_gt; exact rfl; exact rfl; exact rfl; (first | (apply g_load; first | exact WT_loadf rfl rfl) | (apply g_fld; first | exact WT_fieldf rfl rfl rfl) | (apply g_bin; first | exact WT_leq rfl rfl | exact WT_geq rfl rfl)); exact rfl) | refine WP_block ?_ | refine WP_ret ?_ | (refine WPL_case rfl rfl (fun hb => ?_) (fun hb => ?_) <;> (repeat (first | replace hb := dec_t hb | replace hb := dec_f hb)) <;> (try (exfalso; first | fail))) | (refine WP_cond rfl (fun hb => ?_) (fun hb => ?_) <;> (repeat (first | replace hb := dec_t hb | replace hb := dec_f hb)) <;> (try (exfalso; first | contradiction)))))
    all_goals (try (exfalso; first | contradiction | omega))
    all_goals (refine ⟨.inr rfl, ret1 rfl (.tmp rfl) (List.nil_sublist _) ⟨congrArg exB ?_, rfl⟩⟩)
    all_goals (first | (rw [decide_eq_true (p := t.text = []) (by assumption), Bool.true_and]; first | exact decide_eq_decide.2 (by omega) | exact (decide_eq_false (by omega)).symm) | (rw [decide_eq_false (p := t.text = []) (by assumption)]; rfl))
  rw [if_neg h2]
  by_cases h3 : t.kind = 3
  · rw [if_pos h3]
    by_cases hl : t.text.length = 1
    · rw [decide_eq_true hl, Bool.true_and]
      have hd : t.text.head? = some t.text[0] := by rw [List.head?_eq_getElem?, List.getElem?_eq_getElem (by omega)]
      rw [hd]
      have hcs := class_any t.text[0]
      have hc4 : classF t.text[0] = 4 ↔ signB t.text[0] = true := byte_all (P := fun c => classF c = 4 ↔ signB c = true) (by decide +kernel) _
      rw [Option.map_some, Option.getD_some]
      generalize classF t.text[0] = cf at hcs hc4
      generalize signB t.text[0] = sb at hc4 ⊢
      cases sb
      · have hn4 : ¬ cf = 4 := fun e => by have := hc4.1 e; cases this
        (repeat' (first | refine WP_seq ?_ | refine WP_region ?_ | refine WPL_nil ?_ | (apply WPL_t; (first | exact WT_move rfl | exact WT_assign rfl | exact WT_pick (b := true) rfl (fun _ => rfl) (fun e => by cases e) | exact WT_pick (b := false) rfl (fun e => by cases e) (fun _ => rfl) | (apply g_load; first | exact WT_loadf rfl rfl) | (apply g_fld; first | exact WT_fieldf rfl rfl rfl) | (apply g_bin; first | exact WT_eql rfl rfl) | (apply g_call; first | exact WT_lent rfl rfl)); exact rfl) | (refine WPL_off rfl rfl rfl rfl rfl ?_) | (apply WPL_gt; exact rfl; exact rfl; exact rfl; (first | (apply g_load; first | exact WT_loadf rfl rfl) | (apply g_fld; first | exact WT_fieldf rfl rfl rfl) | (apply g_bin; first | exact WT_eql rfl rfl) | (apply g_idxt; first | exact WT_idxt rfl rfl rfl)); exact rfl) | refine WP_block ?_ | refine WP_ret ?_ | (apply WPL_on0; exact rfl; exact rfl; exact rfl; exact rfl; (apply g_callf; first | (refine WO_call Tryd.func29 rfl hcs rfl ?_; rintro _ _ ⟨rfl, rfl⟩))) | (refine WPL_case rfl rfl (fun hb => ?_) (fun hb => ?_) <;> (repeat (first | replace hb := dec_t hb | replace hb := dec_f hb)) <;> (try (exfalso; first | contradiction | omega))) | (refine WP_cond rfl (fun hb => ?_) (fun hb => ?_) <;> (repeat (first | replace hb := dec_t hb | replace hb := dec_f hb)) <;> (try (exfalso; first | contradiction)))))
        all_goals (try (exfalso; first | contradiction | omega))
        all_goals exact ⟨.inr rfl, ret1 rfl (.tmp rfl) (List.nil_sublist _) ⟨rfl, rfl⟩⟩
      · have h4 : cf = 4 := hc4.2 rfl
        rw [Bool.true_and]
        (repeat' (first | refine WP_seq ?_ | refine WP_region ?_ | refine WPL_nil ?_ | (apply WPL_t; (first | exact WT_move rfl | exact WT_assign rfl | exact WT_pick (b := true) rfl (fun _ => rfl) (fun e => by cases e) | (apply g_load; first | exact WT_loadf rfl rfl) | (apply g_fld; first | exact WT_fieldf rfl rfl rfl) | (apply g_bin; first | exact WT_eql rfl rfl) | (apply g_call; first | exact WT_lent rfl rfl)); exact rfl) | (apply WPL_gt; exact rfl; exact rfl; exact rfl; (first | (apply g_load; first | exact WT_loadf rfl rfl) | (apply g_fld; first | exact WT_fieldf rfl rfl rfl) | (apply g_bin; first | exact WT_eql rfl rfl) | (apply g_idxt; first | exact WT_idxt rfl rfl rfl)); exact rfl) | refine WP_block ?_ | refine WP_ret ?_ | (apply WPL_on0; exact rfl; exact rfl; exact rfl; exact rfl; (apply g_callf; first | (refine WO_call Tryd.func29 rfl hcs rfl ?_; rintro _ _ ⟨rfl, rfl⟩))) | (refine WPL_case rfl rfl (fun hb => ?_) (fun hb => ?_) <;> (repeat (first | replace hb := dec_t hb | replace hb := dec_f hb)) <;> (try (exfalso; first | contradiction | omega))) | (refine WP_cond rfl (fun hb => ?_) (fun hb => ?_) <;> (repeat (first | replace hb := dec_t hb | replace hb := dec_f hb)) <;> (try (exfalso; first | contradiction)))))
        all_goals (try (exfalso; first | contradiction | omega))
        all_goals exact ⟨.inr rfl, ret1 rfl (.tmp rfl) (List.nil_sublist _) ⟨rfl, rfl⟩⟩
    · rw [decide_eq_false hl, Bool.false_and]
      (repeat' (first | refine WP_seq ?_ | refine WP_region ?_ | refine WPL_nil ?_ | (apply WPL_t; (first | exact WT_move rfl | exact WT_assign rfl | exact WT_pick (b := false) rfl (fun e => by cases e) (fun _ => rfl) | (apply g_load; first | exact WT_loadf rfl rfl) | (apply g_fld; first | exact WT_fieldf rfl rfl rfl) | (apply g_bin; first | exact WT_eql rfl rfl) | (apply g_call; first | exact WT_lent rfl rfl)); exact rfl) | (refine WPL_off rfl rfl rfl rfl rfl ?_) | refine WP_block ?_ | refine WP_ret ?_ | (refine WPL_case rfl rfl (fun hb => ?_) (fun hb => ?_) <;> (repeat (first | replace hb := dec_t hb | replace hb := dec_f hb)) <;> (try (exfalso; first | omega))) | (refine WP_cond rfl (fun hb => ?_) (fun hb => ?_) <;> (repeat (first | replace hb := dec_t hb | replace hb := dec_f hb)) <;> (try (exfalso; first | contradiction)))))
      all_goals (try (exfalso; first | contradiction | omega))
      all_goals exact ⟨.inr rfl, ret1 rfl (.tmp rfl) (List.nil_sublist _) ⟨rfl, rfl⟩⟩
  · rw [if_neg h3]
    (repeat' (first | refine WP_seq ?_ | refine WP_region ?_ | refine WPL_nil ?_ | (apply WPL_t; (first | exact WT_assign rfl | (apply g_load; first | exact WT_loadf rfl rfl) | (apply g_fld; first | exact WT_fieldf rfl rfl rfl) | (apply g_bin; first | exact WT_eql rfl rfl)); exact rfl) | refine WP_block ?_ | refine WP_skip ?_ | refine WP_ret ?_ | (refine WP_cond rfl (fun hb => ?_) (fun hb => ?_) <;> (repeat (first | replace hb := dec_t hb | replace hb := dec_f hb)) <;> (try (exfalso; first | contradiction)))))
    all_goals (try (exfalso; first | contradiction | omega))
    all_goals exact ⟨.inr rfl, ret1 rfl (.tmp rfl) (List.nil_sublist _) ⟨rfl, rfl⟩⟩
end Go.Proofs.YtdpabdbeecbnmaaDoor

/- Chapter 03: runs of bytes by their places. No program in sight. -/
namespace Go.Lx
structure Run (p : UInt8 → Bool) (s : List UInt8) (i L : Nat) : Prop where
  le : i + L ≤ s.length
  in_ : ∀ j, (h : j < s.length) → i ≤ j → j < i + L → p s[j] = true
  out_ : (h : i + L < s.length) → p s[i + L] = false
  sub : (s.take (i + L)).drop i = (s.drop i).takeWhile p
theorem run_of (p : UInt8 → Bool) (s : List UInt8) (i : Nat) (hi : i ≤ s.length) : Run p s i ((s.drop i).takeWhile p).length := by
  have hl := tw_len (p := p) (s.drop i)
  rw [List.length_drop] at hl
  have hsub : (s.take (i + ((s.drop i).takeWhile p).length)).drop i = (s.drop i).takeWhile p := by
    rw [← tw_take (p := p) (s.drop i), List.drop_take, Nat.add_sub_cancel_left, List.length_take, tw_take, Nat.min_eq_left (tw_len _)]
    exact tw_take _
  refine ⟨by omega, fun j h h1 h2 => ?_, fun h => ?_, hsub⟩
  · have hm : s[j] ∈ (s.drop i).takeWhile p := by
      rw [← hsub]
      refine List.mem_iff_getElem.2 ⟨j - i, by rw [List.length_drop, List.length_take]; omega, ?_⟩
      rw [List.getElem_drop, List.getElem_take]
      congr 1; omega
    exact tw_all _ hm
  · refine tw_drop (s := s.drop i) _ (s.drop (i + ((s.drop i).takeWhile p).length + 1)) ?_
    rw [List.drop_drop]
    exact List.drop_eq_getElem_cons h
theorem lexF_drop_skip {s : List UInt8} {i n : Nat} (hi : i < s.length) (h : step (s[i] :: s.drop (i + 1)) = .skip n) : lexF i (s.drop i) = lexF (i + n) (s.drop (i + n)) := by
  rw [List.drop_eq_getElem_cons hi, lexF_skip h, ← List.drop_eq_getElem_cons hi, List.drop_drop]
theorem lexF_drop_tok {s : List UInt8} {i n : Nat} {k v : Int} {t : List UInt8} (hi : i < s.length) (h : step (s[i] :: s.drop (i + 1)) = .tok n k t v) : lexF i (s.drop i) = (lexF (i + n) (s.drop (i + n))).map (⟨k, t, v, i⟩ :: ·) := by
  rw [List.drop_eq_getElem_cons hi, lexF_tok h, ← List.drop_eq_getElem_cons hi, List.drop_drop]
theorem lexF_drop_bad {s : List UInt8} {i : Nat} (hi : i < s.length) (h : step (s[i] :: s.drop (i + 1)) = .bad) : lexF i (s.drop i) = .error i := by
  rw [List.drop_eq_getElem_cons hi, lexF_bad h]
theorem map_app {e : Except Nat (List TokD)} {acc : List TokD} {t : TokD} : (e.map (t :: ·)).map (acc ++ ·) = e.map ((acc ++ [t]) ++ ·) := by
  cases e with
  | error _ => rfl
  | ok l => show Except.ok _ = Except.ok _; simp
theorem name_run {c : UInt8} {r : List UInt8} (h : letterB c = true) : nameB ((c :: r).takeWhile partB) = decide (((c :: r).takeWhile partB).length ≤ 32) := by
  have h1 : (c :: r).takeWhile partB = c :: r.takeWhile partB := by rw [List.takeWhile_cons, if_pos (part_of_letter h)]
  have h2 := tw_all (p := partB) (s := c :: r)
  rw [h1] at h2 ⊢
  unfold nameB
  rw [List.all_eq_true.2 h2]
  simp [h]
theorem numR_run {s : List UInt8} (h : numB s = true) : (numR 0 s).1 = valF s := by
  have h1 := numR_ok s 0 (by decide)
  refine h1.2 (h1.1.trans ?_)
  unfold numB at h
  rw [Bool.and_eq_true] at h
  exact h.1
end Go.Lx

/- Chapter 03: slices.Contains of ints; the scanner's run, wrong. -/
-- STRINGS
-- ROWS
-- PRUNEC
-- IFACE
namespace Go.Proofs.YtdpabdbeecbnmaaDoor
open Go Go.RowKit Go.Kx Go.Fr Go.Lx
set_option maxHeartbeats 1000000 in
set_option maxRecDepth 100000 in
theorem indexI_any (l : List Int) (x : Int) : FnC Tryd.prog 59 [isl eI l, exI .i64 x] [] (fun p loc => (∃ n : Int, p = exI .i64 n ∧ (0 ≤ n ↔ x ∈ l)) ∧ loc = []) := by
  refine FnC_says (i := 0) rfl Says_isl fun ha => ?_
  obtain ⟨ha, -⟩ := ha
  simp only [maxLen] at ha
  refine FnC_enter Tryd.func59 rfl Tryd.ntmps59 rfl fun w0 F0 out => ?_
  (repeat' (first | refine WP_seq ?_ | refine WP_region ?_ | refine WPL_nil ?_ | (apply WPL_t; (first | exact WT_move rfl | exact WT_assign rfl | (apply g_call; first | exact WT_len rfl rfl)); exact rfl) | refine WP_block ?_))
  refine WP_loop (fun i : Nat => ([(0, isl eI l), (1, exI .i64 x), (7, exI .i64 (l.length : Int)), (8, exI .i64 (i : Int))], [])) (fun i => i ≤ l.length ∧ x ∉ l.take i) (fun i => l.length - i) 0 ?_ ⟨Nat.zero_le _, fun h => by cases h⟩ fun i hi => ?_
  · exact Leads_env (by repeat (first | exact sub_nil | refine sub_cons rfl ?_)) (List.Sublist.refl _)
  obtain ⟨hi, hpre⟩ := hi
  by_cases hlt : i < l.length
  · by_cases he : x = l[i]
    · have hm : x ∈ l := by rw [he]; exact List.getElem_mem hlt
      clear hpre
      (repeat' (first | refine WP_seq ?_ | refine WP_region ?_ | refine WPL_nil ?_ | (apply WPL_t; (first | exact WT_move rfl | exact WT_assign rfl | (apply g_load; first | exact WT_loadf rfl rfl) | (apply g_bin; first | exact WT_lss rfl rfl | exact WT_eql rfl rfl) | (apply g_index; first | exact WT_index rfl rfl rfl)); exact rfl) | refine WP_block ?_ | refine WP_skip ?_ | refine WP_ret ?_ | (refine WP_cond rfl (fun hb => ?_) (fun hb => ?_) <;> (repeat (first | replace hb := dec_t hb | replace hb := dec_f hb)) <;> (try (exfalso; first | contradiction | omega)))))
      all_goals (try (exfalso; first | contradiction | omega))
      all_goals exact ⟨.inr rfl, ret1 rfl (.tmp rfl) (List.nil_sublist _) ⟨⟨i, rfl, ⟨fun _ => hm, fun _ => by omega⟩⟩, rfl⟩⟩
    · have hok : x ∉ l.take (i + 1) := fun h => by
        rw [List.take_succ_eq_append_getElem hlt] at h
        rcases List.mem_append.1 h with h | h
        · exact hpre h
        · exact he (List.mem_singleton.1 h)
      clear hpre
      (repeat' (first | refine WP_seq ?_ | refine WP_region ?_ | refine WPL_nil ?_ | (apply WPL_t; (first | exact WT_move rfl | exact WT_assign rfl | (apply g_load; first | exact WT_loadf rfl rfl) | (apply g_bin; first | exact WT_lss rfl rfl | exact WT_eql rfl rfl | exact WT_add rfl rfl) | (apply g_index; first | exact WT_index rfl rfl rfl)); exact rfl) | refine WP_block ?_ | refine WP_skip ?_ | (refine WP_cond rfl (fun hb => ?_) (fun hb => ?_) <;> (repeat (first | replace hb := dec_t hb | replace hb := dec_f hb)) <;> (try (exfalso; first | contradiction | omega)))))
      all_goals (try (exfalso; first | contradiction | omega))
      all_goals exact ⟨i + 1, ⟨by omega, hok⟩, by omega, Leads_env (by repeat (first | exact sub_nil | refine sub_cons rfl ?_)) (List.Sublist.refl _)⟩
  · rw [show i = l.length by omega, List.take_length] at hpre
    (repeat' (first | refine WP_seq ?_ | refine WP_region ?_ | refine WPL_nil ?_ | (apply WPL_t; (first | exact WT_assign rfl | (apply g_bin; first | exact WT_lss rfl rfl)); exact rfl) | refine WP_ret ?_ | refine WP_exit ?_ | (refine WP_cond rfl (fun hb => ?_) (fun hb => ?_) <;> (repeat (first | replace hb := dec_t hb | replace hb := dec_f hb)) <;> (try (exfalso; first | omega)))))
    all_goals (try (exfalso; omega))
    exact ⟨.inr rfl, ret1 rfl (.tmp rfl) (List.nil_sublist _) ⟨⟨-1, rfl, ⟨fun h => by omega, fun h => absurd h hpre⟩⟩, rfl⟩⟩
set_option maxRecDepth 100000 in
theorem contI_any (l : List Int) (x : Int) : FnC Tryd.prog 51 [isl eI l, exI .i64 x] [] (fun p loc => p = exB (decide (x ∈ l)) ∧ loc = []) := by
  refine FnC_enter Tryd.func51 rfl Tryd.ntmps51 rfl fun w0 F0 out => ?_
  (repeat' (first | refine WP_seq ?_ | refine WP_region ?_ | refine WPL_nil ?_ | (apply WPL_t; (first | exact WT_move rfl | exact WT_assign rfl | (apply g_bin; first | exact WT_geq rfl rfl)); exact rfl) | refine WP_ret ?_ | (apply WPL_op0; exact rfl; first | (apply g_callf; first | (refine WO_call Tryd.func59 rfl (indexI_any l x) rfl ?_; rintro _ _ ⟨⟨n, rfl, hn⟩, rfl⟩)))))
  exact ⟨.inr rfl, ret1 rfl (.tmp rfl) (List.nil_sublist _) ⟨congrArg exB (decide_eq_decide.2 hn), rfl⟩⟩
set_option maxHeartbeats 1000000 in
set_option maxRecDepth 100000 in
theorem wrong3_any (b at_ : Nat) (s : List UInt8) (q : SP) : FnP Tryd.prog 24 [ex (.pointer (some ⟨b, 0, none⟩))] [row b 49 3 [exT s, exI .i64 (at_ : Int), q]] (fun _ _ => False) (fun ch loc => ch = [{ v := .iface 42 (.int .i64 (at_ : Int)), recovered := false }] ∧ loc = []) := by
  refine FnP_enter Tryd.func24 rfl Tryd.ntmps24 rfl fun w0 F0 out => ?_
  (repeat' (first | (refine WPL_panic rfl ?_) | refine WP_region ?_ | (apply WPL_t; (first | exact WT_move rfl | (apply g_load; first | exact WT_load (k := 0) rfl rfl rfl rfl) | (apply g_fld; first | exact WT_field rfl rfl rfl) | (apply g_nilck; first | exact WT_nilck rfl) | (apply g_mkif; first | exact WT_mkif rfl rfl)); exact rfl)))
  exact panic_here (List.nil_sublist _) ⟨rfl, rfl⟩
/-- The run of bytes of some classes. -/
def runF (cls : List Int) (s : List UInt8) : List UInt8 := s.takeWhile fun c => decide (classF c ∈ cls)
set_option maxHeartbeats 1000000 in
set_option maxRecDepth 100000 in
theorem run3_any (b at_ : Nat) (s : List UInt8) (q : SP) (cls : List Int) (hat : at_ ≤ s.length) (hmax : s.length ≤ 65536) : FnC Tryd.prog 42 [ex (.pointer (some ⟨b, 0, none⟩)), isl eI cls] [row b 49 3 [exT s, exI .i64 (at_ : Int), q]] (fun p loc => p = exT (runF cls (s.drop at_)) ∧ loc = [row b 49 3 [exT s, exI .i64 (at_ : Int), q]]) := by
  unfold runF
  have hrun := run_of (fun c => decide (classF c ∈ cls)) s at_ hat
  rw [← hrun.sub]
  generalize ((s.drop at_).takeWhile fun c => decide (classF c ∈ cls)).length = L at hrun ⊢
  have hLle := hrun.le
  refine FnC_enter Tryd.func42 rfl Tryd.ntmps42 rfl fun w0 F0 out => ?_
  (repeat' (first | refine WP_seq ?_ | refine WP_region ?_ | refine WPL_nil ?_ | (apply WPL_t; (first | exact WT_move rfl | exact WT_assign rfl | (apply g_load; first | exact WT_load (k := 0) rfl rfl rfl rfl) | (apply g_fld; first | exact WT_field rfl rfl rfl) | (apply g_nilck; first | exact WT_nilck rfl)); exact rfl) | refine WP_block ?_))
  refine WP_loop (fun j : Nat => ([(0, ex (.pointer (some ⟨b, 0, none⟩))), (1, isl eI cls), (5, exI .i64 (j : Int))], [row b 49 3 [exT s, exI .i64 (at_ : Int), q]])) (fun j => at_ ≤ j ∧ j ≤ at_ + L) (fun j => at_ + L - j) at_ ?_ ⟨Nat.le_refl _, by omega⟩ fun j hj => ?_
  · exact Leads_env (by repeat (first | exact sub_nil | refine sub_cons rfl ?_)) (List.Sublist.refl _)
  obtain ⟨hj1, hj2⟩ := hj
  by_cases hlj : j < at_ + L
  · have hjs : j < s.length := by omega
    have hpj := hrun.in_ j hjs hj1 hlj
    have hcs := class_any s[j]
    have hct := contI_any cls (classF s[j])
    rw [hpj] at hct
    (repeat' (first | refine WP_seq ?_ | refine WP_region ?_ | refine WPL_nil ?_ | (apply WPL_t; (first | exact WT_move rfl | exact WT_assign rfl | exact WT_pick (b := true) rfl (fun _ => rfl) (fun e => by cases e) | (apply g_load; first | exact WT_load (k := 0) rfl rfl rfl rfl) | (apply g_fld; first | exact WT_field rfl rfl rfl) | (apply g_bin; first | exact WT_lss rfl rfl | exact WT_add rfl rfl) | (apply g_call; first | exact WT_lent rfl rfl) | (apply g_nilck; first | exact WT_nilck rfl)); exact rfl) | (apply WPL_gt; exact rfl; exact rfl; exact rfl; (first | exact WT_move rfl | (apply g_load; first | exact WT_load (k := 0) rfl rfl rfl rfl) | (apply g_fld; first | exact WT_field rfl rfl rfl) | (apply g_idxt; first | exact WT_idxt rfl rfl rfl) | (apply g_nilck; first | exact WT_nilck rfl)); exact rfl) | refine WP_block ?_ | refine WP_skip ?_ | refine WP_cond_t rfl ?_ | (apply WPL_on0; exact rfl; exact rfl; exact rfl; exact rfl; (apply g_callf; first | (refine WO_call Tryd.func29 rfl hcs rfl ?_; rintro _ _ ⟨rfl, rfl⟩) | (refine WO_call Tryd.func51 rfl hct rfl ?_; rintro _ _ ⟨rfl, rfl⟩))) | (refine WPL_case rfl rfl (fun hb => ?_) (fun hb => ?_) <;> (repeat (first | replace hb := dec_t hb | replace hb := dec_f hb)) <;> (try (exfalso; first | omega)))))
    all_goals (try (exfalso; first | contradiction | omega))
    exact ⟨j + 1, ⟨by omega, by omega⟩, by omega, Leads_env (by repeat (first | exact sub_nil | refine sub_cons rfl ?_)) (List.Sublist.refl _)⟩
  have hje : j = at_ + L := by omega
  subst hje
  by_cases hend : at_ + L < s.length
  · have hpj := hrun.out_ hend
    have hcs := class_any s[at_ + L]
    have hct := contI_any cls (classF s[at_ + L])
    rw [hpj] at hct
    (repeat' (first | (apply cut_at 4; refine Stop.out ?_) | refine WP_seq ?_ | refine WP_region ?_ | refine WPL_nil ?_ | (apply WPL_t; (first | exact WT_move rfl | exact WT_pick (b := true) rfl (fun _ => rfl) (fun e => by cases e) | (apply g_load; first | exact WT_load (k := 0) rfl rfl rfl rfl) | (apply g_fld; first | exact WT_field rfl rfl rfl) | (apply g_bin; first | exact WT_lss rfl rfl) | (apply g_call; first | exact WT_lent rfl rfl) | (apply g_nilck; first | exact WT_nilck rfl)); exact rfl) | (apply WPL_gt; exact rfl; exact rfl; exact rfl; (first | exact WT_move rfl | (apply g_load; first | exact WT_load (k := 0) rfl rfl rfl rfl) | (apply g_fld; first | exact WT_field rfl rfl rfl) | (apply g_idxt; first | exact WT_idxt rfl rfl rfl) | (apply g_nilck; first | exact WT_nilck rfl)); exact rfl) | refine WP_exit ?_ | refine WP_cond_f rfl ?_ | (apply WPL_on0; exact rfl; exact rfl; exact rfl; exact rfl; (apply g_callf; first | (refine WO_call Tryd.func29 rfl hcs rfl ?_; rintro _ _ ⟨rfl, rfl⟩) | (refine WO_call Tryd.func51 rfl hct rfl ?_; rintro _ _ ⟨rfl, rfl⟩))) | (refine WPL_case rfl rfl (fun hb => ?_) (fun hb => ?_) <;> (repeat (first | replace hb := dec_t hb | replace hb := dec_f hb)) <;> (try (exfalso; first | omega)))))
    all_goals (try (exfalso; first | contradiction | omega))
    refine ⟨WP_seq ?_⟩
    (refine WP_draw ([row b 49 3 [exT s, exI .i64 (at_ : Int), q]]) 11 rfl ?_)
    all_goals ((apply WPY_pure 0 rfl (by decide +kernel) rfl (by repeat (first | exact np_ret)) guard_none; (first | exact WT_move rfl); exact rfl))
    all_goals ((apply WPY_pure 1 rfl (by decide +kernel) rfl (by repeat (first | exact np_ret)) guard_none; (first | (apply g_nilck; first | exact WT_nilck rfl)); exact rfl))
    all_goals ((apply WPY_pure 2 rfl (by decide +kernel) rfl (by repeat (first | exact np_ret)) guard_none; (first | (apply g_fld; first | exact WT_field rfl rfl rfl)); exact rfl))
    all_goals ((apply WPY_take 3 rfl (by decide +kernel) rfl (by decide +kernel) (by repeat (first | exact np_ret)) guard_none; (first | (apply g_load; first | exact WT_load (k := 0) rfl rfl rfl rfl)); exact rfl))
    all_goals ((apply WPY_pure 4 rfl (by decide +kernel) rfl (by repeat (first | exact np_ret)) guard_none; (first | exact WT_move rfl); exact rfl))
    all_goals ((apply WPY_pure 5 rfl (by decide +kernel) rfl (by repeat (first | exact np_ret)) guard_none; (first | (apply g_nilck; first | exact WT_nilck rfl)); exact rfl))
    all_goals ((apply WPY_pure 6 rfl (by decide +kernel) rfl (by repeat (first | exact np_ret)) guard_none; (first | (apply g_fld; first | exact WT_field rfl rfl rfl)); exact rfl))
    all_goals ((apply WPY_take 7 rfl (by decide +kernel) rfl (by decide +kernel) (by repeat (first | exact np_ret)) guard_none; (first | (apply g_load; first | exact WT_load (k := 0) rfl rfl rfl rfl)); exact rfl))
    all_goals ((apply WPY_pure 8 rfl (by decide +kernel) rfl (by repeat (first | exact np_ret)) guard_none; (first | exact WT_move rfl); exact rfl))
    all_goals ((apply WPY_pure 9 rfl (by decide +kernel) rfl (by repeat (first | exact np_ret)) guard_none; (first | (apply g_slice; first | exact WT_sslb rfl rfl rfl rfl)); exact rfl))
    all_goals ((apply WPY_pure 10 rfl (by decide +kernel) rfl (by repeat (first | exact np_ret)) guard_none; (first | exact WT_assign rfl); exact rfl))
    all_goals (refine WPY_done (by decide +kernel) ?_)
    all_goals ((repeat' (first | refine WP_ret ?_)))
    all_goals exact ⟨.inr rfl, ret1 rfl (.tmp rfl) (List.Sublist.refl _) ⟨rfl, rfl⟩⟩
  · (repeat' (first | (apply cut_at 4; refine Stop.out ?_) | refine WP_seq ?_ | refine WP_region ?_ | refine WPL_nil ?_ | (apply WPL_t; (first | exact WT_move rfl | exact WT_pick (b := false) rfl (fun e => by cases e) (fun _ => rfl) | (apply g_load; first | exact WT_load (k := 0) rfl rfl rfl rfl) | (apply g_fld; first | exact WT_field rfl rfl rfl) | (apply g_bin; first | exact WT_lss rfl rfl) | (apply g_call; first | exact WT_lent rfl rfl) | (apply g_nilck; first | exact WT_nilck rfl)); exact rfl) | (refine WPL_off rfl rfl rfl rfl rfl ?_) | refine WP_exit ?_ | refine WP_cond_f rfl ?_ | (refine WPL_case rfl rfl (fun hb => ?_) (fun hb => ?_) <;> (repeat (first | replace hb := dec_t hb | replace hb := dec_f hb)) <;> (try (exfalso; first | omega)))))
    all_goals (try (exfalso; first | contradiction | omega))
    refine ⟨WP_seq ?_⟩
    (refine WP_draw ([row b 49 3 [exT s, exI .i64 (at_ : Int), q]]) 11 rfl ?_)
    all_goals ((apply WPY_pure 0 rfl (by decide +kernel) rfl (by repeat (first | exact np_ret)) guard_none; (first | exact WT_move rfl); exact rfl))
    all_goals ((apply WPY_pure 1 rfl (by decide +kernel) rfl (by repeat (first | exact np_ret)) guard_none; (first | (apply g_nilck; first | exact WT_nilck rfl)); exact rfl))
    all_goals ((apply WPY_pure 2 rfl (by decide +kernel) rfl (by repeat (first | exact np_ret)) guard_none; (first | (apply g_fld; first | exact WT_field rfl rfl rfl)); exact rfl))
    all_goals ((apply WPY_take 3 rfl (by decide +kernel) rfl (by decide +kernel) (by repeat (first | exact np_ret)) guard_none; (first | (apply g_load; first | exact WT_load (k := 0) rfl rfl rfl rfl)); exact rfl))
    all_goals ((apply WPY_pure 4 rfl (by decide +kernel) rfl (by repeat (first | exact np_ret)) guard_none; (first | exact WT_move rfl); exact rfl))
    all_goals ((apply WPY_pure 5 rfl (by decide +kernel) rfl (by repeat (first | exact np_ret)) guard_none; (first | (apply g_nilck; first | exact WT_nilck rfl)); exact rfl))
    all_goals ((apply WPY_pure 6 rfl (by decide +kernel) rfl (by repeat (first | exact np_ret)) guard_none; (first | (apply g_fld; first | exact WT_field rfl rfl rfl)); exact rfl))
    all_goals ((apply WPY_take 7 rfl (by decide +kernel) rfl (by decide +kernel) (by repeat (first | exact np_ret)) guard_none; (first | (apply g_load; first | exact WT_load (k := 0) rfl rfl rfl rfl)); exact rfl))
    all_goals ((apply WPY_pure 8 rfl (by decide +kernel) rfl (by repeat (first | exact np_ret)) guard_none; (first | exact WT_move rfl); exact rfl))
    all_goals ((apply WPY_pure 9 rfl (by decide +kernel) rfl (by repeat (first | exact np_ret)) guard_none; (first | (apply g_slice; first | exact WT_sslb rfl rfl rfl rfl)); exact rfl))
    all_goals ((apply WPY_pure 10 rfl (by decide +kernel) rfl (by repeat (first | exact np_ret)) guard_none; (first | exact WT_assign rfl); exact rfl))
    all_goals (refine WPY_done (by decide +kernel) ?_)
    all_goals ((repeat' (first | refine WP_ret ?_)))
    all_goals exact ⟨.inr rfl, ret1 rfl (.tmp rfl) (List.Sublist.refl _) ⟨rfl, rfl⟩⟩
end Go.Proofs.YtdpabdbeecbnmaaDoor
