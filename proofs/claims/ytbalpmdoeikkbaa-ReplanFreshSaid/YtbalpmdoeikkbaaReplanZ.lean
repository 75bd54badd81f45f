/- Layer 28: the law ReplanFresh, for its row. -/
import Derived.Test.YtbalpmdoeikkbaaReplanY
import Derived.Test.YtbalpmdoeikkbaaReplanR
namespace Go.Proofs.Ytbalpmdoeikkbaa.C
open Go Go.RowKit Go.Proofs.Ytbalpmdoeikkbaa.AL

theorem ReplanFresh.w (cz : List AV) (b : Nat) (h : ArgsOk prog 20 [24, 25, 25] cz b) : Pure prog 3 cz (.bool true) := by
  obtain ⟨a, a', a'', _, _, _, rfl, _, h, h', h''⟩ := args3 h
  obtain ⟨p, hp, rfl⟩ := arg_plan h
  obtain ⟨al, rfl, ha⟩ := arg_ints h'
  obtain ⟨fa, rfl, hf⟩ := arg_ints h''
  exact law28_ReplanFresh.a p hp.f al fa ha hf

end Go.Proofs.Ytbalpmdoeikkbaa.C
