/- Law PlanEasier: its walk as the row asks for it. -/
import Derived.Test.YtiionlbepecmjaaPlanE
import Derived.Test.YtiionlbepecmjaaPlanT
namespace Go.Proofs.Ytiionlbepecmjaa.C
open Go Go.RowKit Go.Proofs.Ytiionlbepecmjaa.AL

theorem PlanEasier.w (cz : List AV) (b : Nat) (h : ArgsOk prog 20 [24] cz b) : Pure prog 3 cz (.bool true) := by
  obtain ⟨a, _, rfl, _, h⟩ := args1 h
  obtain ⟨p, hp, rfl⟩ := arg_plan h
  exact law12_PlanEasier.a p hp.f

end Go.Proofs.Ytiionlbepecmjaa.C
