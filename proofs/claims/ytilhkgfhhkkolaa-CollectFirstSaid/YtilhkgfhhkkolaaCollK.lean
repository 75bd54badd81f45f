/- The walk of CollectFirst, as its row asks for it. -/
import Derived.Test.YtilhkgfhhkkolaaCollJ
import Derived.Test.YtilhkgfhhkkolaaCollH
namespace Go.Proofs.Ytilhkgfhhkkolaa.C
open Go Go.RowKit Go.Proofs.Ytilhkgfhhkkolaa.AL
set_option maxRecDepth 100000

theorem CollectFirst.w (cz : List AV) (b : Nat) (h : ArgsOk prog 20 [24, 25, 26] cz b) : Pure prog 3 cz (.bool true) := by
  obtain ⟨a, a', a'', _, _, _, rfl, _, h1, h2, h3⟩ := args3 h
  obtain ⟨p, hp, rfl⟩ := arg_plan h1
  obtain ⟨x, y, z, rfl, _, _, _⟩ := arg_by3 h2
  obtain ⟨l, rfl, hl, hb⟩ := arg_pkts h3
  exact law25_CollectFirst.a law25_anchored.a p x y z l hp.f hl hb

end Go.Proofs.Ytilhkgfhhkkolaa.C
