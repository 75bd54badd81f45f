/- Law PlanTurns: whatever the input, the call returns true and leaves what was handed in as it was. -/
import Derived.Test.YtiionlbepecmjaaPlanR
namespace Go.Proofs.Ytiionlbepecmjaa.LPlanTurns
open Go.ChangeShapes Go.WideShapes Go.ChangeAt Go.RowKit Go.Proofs.Ytiionlbepecmjaa.AL
set_option linter.unusedVariables false

theorem own : ownKnob Try.prog.godebug = none := by kernel_rfl
theorem laid : laidOutB Try.prog = true := by kernel_rfl

theorem fnLaw (H : Type) (ds : List (DataW H)) (h : ds.length = Try.f7.params.toList.length) : (Rows.planTurnsSpec.fn H ds) = { results := [.lit (.bool true)], args := ds } := by
  have h' : ds.length = 2 := h.trans (by kernel_rfl)
  match ds, h' with
  | [d0, d1], _ => rfl

theorem contract (H : Type) (enc : TypeId × Value → H) (W : World) (base : Nat) (args : Array Value) (ds gs : List (DataW H)) (before : List MemPlace)
    (hval : ∀ (j : Nat) t v, Try.f7.params[j]? = some t → args[j]? = some v → Value.okWide Try.prog W .any base t v)
    (hW : DataW.Whole enc Try.prog Try.f7.params.toList Rows.planTurnsSpec.vars false W args.toList ds gs before) :
    Calls Try.prog 7 args W fun e W' => ∃ v, e = .returned v ∧ Rows.planTurnsSpec.post enc Try.prog Try.f7 false true false false W args v W' := by
  refine law_calls (tb := 4) laid rfl (by kernel_rfl) Try.underlying4 (by kernel_rfl) (fnLaw H) hval hW ?_
  rw [Try.params7]
  intro cz hc
  exact C.PlanTurns.w cz _ hc

set_option maxRecDepth 100000 in
theorem lifted (os : Os) (started : os.Started) (H : Type) (enc : TypeId × Value → H) :
    ReturnsInHanded {} Try.checked os 7 .any (Rows.planTurnsSpec.pre6 enc Try.prog Try.f7 Rows.planTurnsRow.domain false) (Rows.planTurnsSpec.post enc Try.prog Try.f7 false true false false) := by
  refine returnsInHanded_of_change (C := Try.checked) own started (by kernel_rfl) Try.func7
    (ChangeSpec.witness6 (enc := enc) (C := Try.checked) false ⟨#[], #[.agg #[.int .u8 0, .int .i64 0, .int .i64 0, .int .i64 0, .int .i64 0, .int .i64 0, .int .i64 0, .int .i64 0], .int .i64 0], []⟩ 64 (by kernel_rfl) (by kernel_rfl) (by kernel_rfl) (by kernel_rfl)) ?_
  intro W base args ds gs before hval hW _ _
  exact contract H enc W base args ds gs before hval hW

theorem over : Rows.planTurnsRow.holds Try.pinned (OpenSpec.ofChange Rows.planTurnsSpec) :=
  OpenClaim.holds_of_wide 7 Try.f7 rfl rfl rfl rfl rfl rfl rfl ⟨rfl, rfl, rfl, rfl, rfl⟩ rfl rfl rfl rfl rfl (by kernel_rfl) Try.func7 (by kernel_rfl)
    (of_decide_eq_true (by kernel_rfl)) (by unfold Func.isWrapper; first | (rw [if_pos (by decide +kernel)]; kernel_rfl) | (rw [if_neg (by decide +kernel)]; exact ⟨rfl, rfl⟩))
    (fun os started H enc _ => lifted os started H enc)

theorem proved : Rows.PlanTurnsSaid :=
  over

#print axioms proved
end Go.Proofs.Ytiionlbepecmjaa.LPlanTurns
