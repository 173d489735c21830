/- LexPlaces returns true for all arguments, and leaves them as they were; the variables that the row lists are tied to the program's text. No conditions on the arguments. -/
import Derived.Test.YtdpabdbeecbnmaaDoorPart5
import Derived.Test.YtdpabdbeecbnmaaDoorPart8
namespace Go.Proofs.YtdpabdbeecbnmaaDoor
open Go Go.RowKit Go.Kx Go.Fr Go.ChangeShapes Go.WideShapes Go.ChangeAt

theorem lexPlaces_reads (os : Os) {H : Type} (enc : TypeId × Value → H) : ∃ places, DataW.whole enc Tryd.prog ((laidW os).forCall (fun _ _ => 0) ⟨#[], #[.string .empty], []⟩).memory Tryd.f6.params.toList Rows.lexPlacesSpec.vars false (#[.string .empty] : Array Value).toList 8 = some ([.lit (.string [])], [], places) :=
  ⟨[], by kernel_rfl⟩
set_option maxRecDepth 100000 in
theorem lexPlaces_laid (os : Os) : laidMetH Tryd.prog Rows.lexPlacesRow.laid ((laidW os).forCall (fun _ _ => 0) ⟨#[], #[.string .empty], []⟩).memory :=
  laidMet_of_run' 8 (by kernel_rfl) (by kernel_rfl)
set_option maxRecDepth 100000 in
theorem lexPlaces_lifted (os : Os) (started : os.Started) (H : Type) (enc : TypeId × Value → H) (F : Stop.Interp) :
    ReturnsInHanded {} Tryd.checked os 6 .any ((OpenSpec.ofChange Rows.lexPlacesSpec).preRow enc Tryd.prog Tryd.f6 Rows.lexPlacesRow.domain false Rows.lexPlacesRow.laid) (((OpenSpec.ofChange Rows.lexPlacesSpec).at F).post enc Tryd.prog Tryd.f6 false true false false) := by
  obtain ⟨places, hx⟩ := lexPlaces_reads os enc
  refine law_tied (C := Tryd.checked) (tb := 4) Tryd.own Tryd.laidOut started (by kernel_rfl) Tryd.func6 rfl Tryd.underlying4 rfl (by kernel_rfl) ?_
    (witness_ref (enc := enc) (C := Tryd.checked) (laidW os) #[.string .empty] rfl (by kernel_rfl) (by kernel_rfl) (by kernel_rfl)
      (OpenSpec.preRow_of_cond 8 hx (by kernel_rfl) (fun k hk => by cases hk) (by kernel_rfl) (lexPlaces_laid os))) ?_
  · intro ds hds
    have hds' : ds.length = 1 := hds
    match ds, hds' with
    | [d0], _ => rfl
  · intro W args hA0 hL
    have hA : ArgsIn Tryd.prog W Tryd.f6.params.toList args.toList := hA0
    rw [Tryd.params6] at hA
    obtain ⟨v0, vs0, e0, h0, hA⟩ := hA.cons
    obtain rfl := hA.nil
    obtain ⟨args⟩ := args
    have e0' : args = [v0] := e0
    subst e0'
    obtain ⟨n0, q0, hi0⟩ := ArgIn.text h0 Tryd.underlying9
    exact lawL_of rfl (lexPlaces_any n0) (lab_laid hL) (.cons q0 .nil)
theorem lexPlaces_said : Rows.LexPlacesSaid :=
  OpenClaim.holds_of_cond 6 Tryd.f6 rfl rfl rfl rfl rfl rfl rfl ⟨rfl, rfl, rfl, rfl, rfl⟩ rfl rfl rfl rfl rfl (by kernel_rfl) Tryd.func6 (by kernel_rfl)
    (of_decide_eq_true (by kernel_rfl)) (by unfold Func.isWrapper; first | (rw [if_pos (by decide +kernel)]; kernel_rfl) | (rw [if_neg (by decide +kernel)]; exact ⟨rfl, rfl⟩))
    (fun os started H enc _ F => by rw [OpenClaim.pre_eq_preRow]; exact lexPlaces_lifted os started H enc F)
theorem lexPlaces_plain (f : FuncId) (fn : Func) (hf : Tryd.pinned.checked.prog.funcNamed Rows.lexPlacesRow.func = some f) (hfn : Tryd.pinned.checked.prog.funcs[f]? = some fn) :
    true = Tryd.pinned.checked.prog.looks [] ∧ ∀ (j : Nat) t, fn.params[j]? = some t → Tryd.pinned.checked.prog.wantsStandIn t = false := by
  obtain rfl : f = 6 := Option.some.inj ((show Tryd.prog.funcNamed Rows.lexPlacesRow.func = some 6 by kernel_rfl).symm.trans hf) |>.symm
  obtain rfl : fn = Tryd.f6 := (Option.some.inj (Tryd.func6.symm.trans hfn)).symm
  refine ⟨by kernel_rfl, fun j t ht => ?_⟩
  have hall : Tryd.f6.params.toList.all (fun t => !Tryd.prog.wantsStandIn t) = true := by kernel_rfl
  have hm : t ∈ Tryd.f6.params.toList := by
    rw [Array.mem_toList_iff]
    exact Array.mem_of_getElem? ht
  have hw : Tryd.prog.wantsStandIn t = false := by simpa using List.all_eq_true.1 hall t hm
  exact hw
theorem lexPlaces_card : Rows.LexPlacesCardSaid :=
  Claim7.holds_tied_plain_at .later [] _ _ _ _ lexPlaces_said (fun _ h => by cases h) (by kernel_rfl) (fun _ h => by cases h) lexPlaces_row_tie rfl ⟨rfl, rfl⟩ (by kernel_rfl) rfl lexPlaces_plain (by kernel_rfl)
end Go.Proofs.YtdpabdbeecbnmaaDoor
