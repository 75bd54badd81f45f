/- Law NetHonest: whatever the input, the call returns true and leaves what was handed in as it was. -/
import Derived.Test.YtapgnmigpfcdfaaNetU
namespace Go.Proofs.Ytapgnmigpfcdfaa.LNetHonest
open Go.ChangeShapes Go.WideShapes Go.ChangeAt Go.RowKit Go.Proofs.Ytapgnmigpfcdfaa.AL
set_option linter.unusedVariables false

theorem own : ownKnob Try.prog.godebug = none := by kernel_rfl
theorem laid : laidOutB Try.prog = true := by kernel_rfl

theorem fnLaw (H : Type) (ds : List (DataW H)) (h : ds.length = Try.f5.params.toList.length) : (Rows.netHonestSpec.fn H ds) = { results := [.lit (.bool true)], args := ds } := by
  have h' : ds.length = 1 := h.trans (by kernel_rfl)
  match ds, h' with
  | [d0], _ => rfl

theorem contract (H : Type) (enc : TypeId × Value → H) (W : World) (base : Nat) (args : Array Value) (ds gs : List (DataW H)) (before : List MemPlace)
    (hval : ∀ (j : Nat) t v, Try.f5.params[j]? = some t → args[j]? = some v → Value.okWide Try.prog W .any base t v)
    (hW : DataW.Whole enc Try.prog Try.f5.params.toList Rows.netHonestSpec.vars false W args.toList ds gs before) (hz : (DataW.weightsEach Try.prog (Try.f5.params.toList ++ Rows.netHonestSpec.plain.varTypes Try.prog) (ds ++ gs)).all (· ≤ reachBytes) = true) :
    Calls Try.prog 5 args W fun e W' => ∃ v, e = .returned v ∧ Rows.netHonestSpec.post enc Try.prog Try.f5 false true false false W args v W' := by
  refine law_calls (tb := 4) laid rfl (by kernel_rfl) Try.underlying4 (by kernel_rfl) (fnLaw H) hval hW (.inl hz) ?_
  rw [Try.params5]
  intro cz hc
  exact C.NetHonest.w cz _ hc

set_option maxRecDepth 100000 in
theorem lifted (os : Os) (started : os.Started) (H : Type) (enc : TypeId × Value → H) :
    ReturnsInHanded {} Try.checked os 5 .any (Rows.netHonestSpec.pre6 enc Try.prog Try.f5 Rows.netHonestRow.domain false) (Rows.netHonestSpec.post enc Try.prog Try.f5 false true false false) := by
  refine returnsInHanded_of_change_sized (C := Try.checked) own started (by kernel_rfl) Try.func5
    (ChangeSpec.witness6 (enc := enc) (C := Try.checked) false ⟨#[], #[.slice none 0 0], []⟩ 64 (by kernel_rfl) (by kernel_rfl) (by kernel_rfl) (by kernel_rfl)) ?_
  intro W base args ds gs before hval hW _ hz _
  exact contract H enc W base args ds gs before hval hW hz

theorem over : Rows.netHonestRow.holds Try.pinned (OpenSpec.ofChange Rows.netHonestSpec) :=
  OpenClaim.holds_of_wide 5 Try.f5 rfl rfl rfl rfl rfl rfl rfl ⟨rfl, rfl, rfl, rfl, rfl⟩ rfl rfl rfl rfl rfl (by kernel_rfl) Try.func5 (by kernel_rfl)
    (of_decide_eq_true (by kernel_rfl)) (by unfold Func.isWrapper; first | (rw [if_pos (by decide +kernel)]; kernel_rfl) | (rw [if_neg (by decide +kernel)]; exact ⟨rfl, rfl⟩))
    (fun os started H enc _ => lifted os started H enc)

theorem proved : Rows.NetHonestSaid :=
  over

#print axioms proved
end Go.Proofs.Ytapgnmigpfcdfaa.LNetHonest
