/- RulesKeysSpec returns true for all arguments, and leaves them as they were; the variables that the row lists are tied to the program's text. No conditions on the arguments. -/
import Derived.Test.YthldagplhklbnaaGreatDoorPart3
import Derived.Test.YthldagplhklbnaaGreatDoorPart9
namespace Go.Proofs.YthldagplhklbnaaGreatDoor
open Go Go.RowKit Go.Kx Go.Fr Go.ChangeShapes Go.WideShapes Go.ChangeAt

theorem rulesKeysSpec_reads (os : Os) {H : Type} (enc : TypeId × Value → H) : ∃ places, DataW.whole enc Tryz.prog ((laidW os).forCall (fun _ _ => 0) ⟨#[], #[.agg #[.string .empty, .slice none 0 0, .slice none 0 0, .slice none 0 0, .slice none 0 0, .slice none 0 0, .slice none 0 0, .slice none 0 0, .int .i64 0], .int .i64 0], []⟩).memory Tryz.f4.params.toList Rows.rulesKeysSpecSpec.vars false (#[.agg #[.string .empty, .slice none 0 0, .slice none 0 0, .slice none 0 0, .slice none 0 0, .slice none 0 0, .slice none 0 0, .slice none 0 0, .int .i64 0], .int .i64 0] : Array Value).toList 8 = some ([.agg [.lit (.string []), .nil, .nil, .nil, .nil, .nil, .nil, .nil, .lit (.int .i64 0)], .lit (.int .i64 0)], [], places) :=
  ⟨[], by kernel_rfl⟩
set_option maxRecDepth 100000 in
theorem rulesKeysSpec_laid (os : Os) : laidMetH Tryz.prog Rows.rulesKeysSpecRow.laid ((laidW os).forCall (fun _ _ => 0) ⟨#[], #[.agg #[.string .empty, .slice none 0 0, .slice none 0 0, .slice none 0 0, .slice none 0 0, .slice none 0 0, .slice none 0 0, .slice none 0 0, .int .i64 0], .int .i64 0], []⟩).memory :=
  laidMet_of_run' 8 (by kernel_rfl) (by kernel_rfl)
set_option maxRecDepth 100000 in
theorem rulesKeysSpec_lifted (os : Os) (started : os.Started) (H : Type) (enc : TypeId × Value → H) (F : Stop.Interp) :
    ReturnsInHanded {} Tryz.checked os 4 .any ((OpenSpec.ofChange Rows.rulesKeysSpecSpec).preRow enc Tryz.prog Tryz.f4 Rows.rulesKeysSpecRow.domain false Rows.rulesKeysSpecRow.laid) (((OpenSpec.ofChange Rows.rulesKeysSpecSpec).at F).post enc Tryz.prog Tryz.f4 false true false false) := by
  obtain ⟨places, hx⟩ := rulesKeysSpec_reads os enc
  refine law_tied (C := Tryz.checked) (tb := 4) Tryz.own Tryz.laidOut started (by kernel_rfl) Tryz.func4 rfl Tryz.underlying4 rfl (by kernel_rfl) ?_
    (witness_ref (enc := enc) (C := Tryz.checked) (laidW os) #[.agg #[.string .empty, .slice none 0 0, .slice none 0 0, .slice none 0 0, .slice none 0 0, .slice none 0 0, .slice none 0 0, .slice none 0 0, .int .i64 0], .int .i64 0] rfl (by kernel_rfl) (by kernel_rfl) (by kernel_rfl)
      (OpenSpec.preRow_of_cond 8 hx (by kernel_rfl) (fun k hk => by cases hk) (by kernel_rfl) (rulesKeysSpec_laid os))) ?_
  · intro ds hds
    have hds' : ds.length = 2 := hds
    match ds, hds' with
    | [d0, d1], _ => rfl
  · intro W args hA0 hL
    have hA : ArgsIn Tryz.prog W Tryz.f4.params.toList args.toList := hA0
    rw [Tryz.params4] at hA
    obtain ⟨v0, vs0, e0, h0, hA⟩ := hA.cons
    obtain ⟨v1, vs1, rfl, h1, hA⟩ := hA.cons
    obtain rfl := hA.nil
    obtain ⟨args⟩ := args
    have e0' : args = [v0, v1] := e0
    subst e0'
    obtain ⟨k0, r0, q0⟩ := arg_rules h0
    obtain ⟨n1, q1, lo1, hi1⟩ := ArgIn.int_ h1 Tryz.underlying3
    exact lawT_of (rulesKeysSpec_any k0 r0 n1) (tab_laid hL) (.cons q0 (.cons q1 .nil))
theorem rulesKeysSpec_said : Rows.RulesKeysSpecSaid :=
  OpenClaim.holds_of_cond 4 Tryz.f4 rfl rfl rfl rfl rfl rfl rfl ⟨rfl, rfl, rfl, rfl, rfl⟩ rfl rfl rfl rfl rfl (by kernel_rfl) Tryz.func4 (by kernel_rfl)
    (of_decide_eq_true (by kernel_rfl)) (by unfold Func.isWrapper; first | (rw [if_pos (by decide +kernel)]; kernel_rfl) | (rw [if_neg (by decide +kernel)]; exact ⟨rfl, rfl⟩))
    (fun os started H enc _ F => by rw [OpenClaim.pre_eq_preRow]; exact rulesKeysSpec_lifted os started H enc F)
theorem rulesKeysSpec_plain (f : FuncId) (fn : Func) (hf : Tryz.pinned.checked.prog.funcNamed Rows.rulesKeysSpecRow.func = some f) (hfn : Tryz.pinned.checked.prog.funcs[f]? = some fn) :
    false = Tryz.pinned.checked.prog.looks [] ∧ ∀ (j : Nat) t, fn.params[j]? = some t → Tryz.pinned.checked.prog.wantsStandIn t = false := by
  obtain rfl : f = 4 := Option.some.inj ((show Tryz.prog.funcNamed Rows.rulesKeysSpecRow.func = some 4 by kernel_rfl).symm.trans hf) |>.symm
  obtain rfl : fn = Tryz.f4 := (Option.some.inj (Tryz.func4.symm.trans hfn)).symm
  refine ⟨by kernel_rfl, fun j t ht => ?_⟩
  have hall : Tryz.f4.params.toList.all (fun t => !Tryz.prog.wantsStandIn t) = true := by kernel_rfl
  have hm : t ∈ Tryz.f4.params.toList := by
    rw [Array.mem_toList_iff]
    exact Array.mem_of_getElem? ht
  have hw : Tryz.prog.wantsStandIn t = false := by simpa using List.all_eq_true.1 hall t hm
  exact hw
theorem rulesKeysSpec_card : Rows.RulesKeysSpecCardSaid :=
  Claim7.holds_tied_plain_at .later [] _ _ _ _ rulesKeysSpec_said (fun _ h => by cases h) (by kernel_rfl) (fun _ h => by cases h) rulesKeysSpec_row_tie rfl ⟨rfl, rfl⟩ (by kernel_rfl) rfl rulesKeysSpec_plain (by kernel_rfl)
end Go.Proofs.YthldagplhklbnaaGreatDoor
