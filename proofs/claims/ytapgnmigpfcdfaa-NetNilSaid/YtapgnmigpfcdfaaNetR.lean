/- Layer 21: the walk of NetNil, as its row asks for it. -/
import Derived.Test.YtapgnmigpfcdfaaNetA
import Derived.Test.YtapgnmigpfcdfaaAarg
namespace Go.Proofs.Ytapgnmigpfcdfaa.C
open Go Go.RowKit Go.Proofs.Ytapgnmigpfcdfaa.AL

theorem NetNil.w (cz : List AV) (b : Nat) (h : ArgsOk prog 20 [3, 3] cz b) : Pure prog 6 cz (.bool true) := by
  obtain ⟨a, a', _, _, rfl, _, h, h'⟩ := args2 h
  obtain ⟨x, rfl, hx⟩ := arg_of_i64 Try.underlying3 h
  obtain ⟨y, rfl, hy⟩ := arg_of_i64 Try.underlying3 h'
  exact law21_NetNil.a x y

end Go.Proofs.Ytapgnmigpfcdfaa.C
