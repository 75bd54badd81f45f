/- Layer 28: the law ReplanStays, for its row. -/
import Derived.Test.YtbalpmdoeikkbaaReplanV
import Derived.Test.YtbalpmdoeikkbaaReplanR
namespace Go.Proofs.Ytbalpmdoeikkbaa.C
open Go Go.RowKit Go.Proofs.Ytbalpmdoeikkbaa.AL

theorem ReplanStays.w (cz : List AV) (b : Nat) (h : ArgsOk prog 20 [24, 25] cz b) : Pure prog 5 cz (.bool true) := by
  obtain ⟨a, a', _, _, rfl, _, h, h'⟩ := args2 h
  obtain ⟨p, hp, rfl⟩ := arg_plan h
  obtain ⟨fa, rfl, hf⟩ := arg_ints h'
  exact law28_ReplanStays.a p hp.f fa (by simp only [Len]; omega)

end Go.Proofs.Ytbalpmdoeikkbaa.C
