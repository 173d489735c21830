/- SyntaxBrackets returns true for all arguments, and leaves them as they were; the variables that the row lists are tied to the program's text. No conditions on the arguments. -/
import Derived.Test.YthdldeenpgeemaaGreatDoorPart5
import Derived.Test.YthdldeenpgeemaaGreatDoorPartB
namespace Go.Proofs.YthdldeenpgeemaaGreatDoor
open Go Go.RowKit Go.Kx Go.Fr Go.ChangeShapes Go.WideShapes Go.ChangeAt

theorem syntaxBrackets_reads (os : Os) {H : Type} (enc : TypeId × Value → H) : ∃ places, DataW.whole enc Tryz.prog ((laidW os).forCall (fun _ _ => 0) ⟨#[], #[.string .empty, .int .u8 0], []⟩).memory Tryz.f8.params.toList Rows.syntaxBracketsSpec.vars false (#[.string .empty, .int .u8 0] : Array Value).toList 8 = some ([.lit (.string []), .lit (.int .u8 0)], [], places) :=
  ⟨[], by kernel_rfl⟩
set_option maxRecDepth 100000 in
theorem syntaxBrackets_laid (os : Os) : laidMetH Tryz.prog Rows.syntaxBracketsRow.laid ((laidW os).forCall (fun _ _ => 0) ⟨#[], #[.string .empty, .int .u8 0], []⟩).memory :=
  laidMet_of_run' 8 (by kernel_rfl) (by kernel_rfl)
set_option maxRecDepth 100000 in
theorem syntaxBrackets_lifted (os : Os) (started : os.Started) (H : Type) (enc : TypeId × Value → H) (F : Stop.Interp) :
    ReturnsInHanded {} Tryz.checked os 8 .any ((OpenSpec.ofChange Rows.syntaxBracketsSpec).preRow enc Tryz.prog Tryz.f8 Rows.syntaxBracketsRow.domain false Rows.syntaxBracketsRow.laid) (((OpenSpec.ofChange Rows.syntaxBracketsSpec).at F).post enc Tryz.prog Tryz.f8 false true false false) := by
  obtain ⟨places, hx⟩ := syntaxBrackets_reads os enc
  refine law_tied (C := Tryz.checked) (tb := 4) Tryz.own Tryz.laidOut started (by kernel_rfl) Tryz.func8 rfl Tryz.underlying4 rfl (by kernel_rfl) ?_
    (witness_ref (enc := enc) (C := Tryz.checked) (laidW os) #[.string .empty, .int .u8 0] rfl (by kernel_rfl) (by kernel_rfl) (by kernel_rfl)
      (OpenSpec.preRow_of_cond 8 hx (by kernel_rfl) (fun k hk => by cases hk) (by kernel_rfl) (syntaxBrackets_laid os))) ?_
  · intro ds hds
    have hds' : ds.length = 2 := hds
    match ds, hds' with
    | [d0, d1], _ => rfl
  · intro W args hA0 hL
    have hA : ArgsIn Tryz.prog W Tryz.f8.params.toList args.toList := hA0
    rw [Tryz.params8] at hA
    obtain ⟨v0, vs0, e0, h0, hA⟩ := hA.cons
    obtain ⟨v1, vs1, rfl, h1, hA⟩ := hA.cons
    obtain rfl := hA.nil
    obtain ⟨args⟩ := args
    have e0' : args = [v0, v1] := e0
    subst e0'
    obtain ⟨n0, q0, hi0⟩ := ArgIn.text h0 Tryz.underlying9
    obtain ⟨n1, q1, lo1, hi1⟩ := ArgIn.int_ h1 Tryz.underlying5
    exact lawL_of rfl (syntaxBrackets_u n0 n1 lo1 hi1) (lab_laid hL) (.cons q0 (.cons q1 .nil))
theorem syntaxBrackets_said : Rows.SyntaxBracketsSaid :=
  OpenClaim.holds_of_cond 8 Tryz.f8 rfl rfl rfl rfl rfl rfl rfl ⟨rfl, rfl, rfl, rfl, rfl⟩ rfl rfl rfl rfl rfl (by kernel_rfl) Tryz.func8 (by kernel_rfl)
    (of_decide_eq_true (by kernel_rfl)) (by unfold Func.isWrapper; first | (rw [if_pos (by decide +kernel)]; kernel_rfl) | (rw [if_neg (by decide +kernel)]; exact ⟨rfl, rfl⟩))
    (fun os started H enc _ F => by rw [OpenClaim.pre_eq_preRow]; exact syntaxBrackets_lifted os started H enc F)
theorem syntaxBrackets_plain (f : FuncId) (fn : Func) (hf : Tryz.pinned.checked.prog.funcNamed Rows.syntaxBracketsRow.func = some f) (hfn : Tryz.pinned.checked.prog.funcs[f]? = some fn) :
    true = Tryz.pinned.checked.prog.looks [] ∧ ∀ (j : Nat) t, fn.params[j]? = some t → Tryz.pinned.checked.prog.wantsStandIn t = false := by
  obtain rfl : f = 8 := Option.some.inj ((show Tryz.prog.funcNamed Rows.syntaxBracketsRow.func = some 8 by kernel_rfl).symm.trans hf) |>.symm
  obtain rfl : fn = Tryz.f8 := (Option.some.inj (Tryz.func8.symm.trans hfn)).symm
  refine ⟨by kernel_rfl, fun j t ht => ?_⟩
  have hall : Tryz.f8.params.toList.all (fun t => !Tryz.prog.wantsStandIn t) = true := by kernel_rfl
  have hm : t ∈ Tryz.f8.params.toList := by
    rw [Array.mem_toList_iff]
    exact Array.mem_of_getElem? ht
  have hw : Tryz.prog.wantsStandIn t = false := by simpa using List.all_eq_true.1 hall t hm
  exact hw
theorem syntaxBrackets_card : Rows.SyntaxBracketsCardSaid :=
  Claim7.holds_tied_plain_at .later [] _ _ _ _ syntaxBrackets_said (fun _ h => by cases h) (by kernel_rfl) (fun _ h => by cases h) syntaxBrackets_row_tie rfl ⟨rfl, rfl⟩ (by kernel_rfl) rfl syntaxBrackets_plain (by kernel_rfl)
end Go.Proofs.YthdldeenpgeemaaGreatDoor
