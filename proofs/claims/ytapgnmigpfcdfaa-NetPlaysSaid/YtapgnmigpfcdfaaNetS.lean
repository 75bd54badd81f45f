/- Layer 21: the walk of NetPlays, as its row asks for it. -/
import Derived.Test.YtapgnmigpfcdfaaNetC
import Derived.Test.YtapgnmigpfcdfaaNetO
namespace Go.Proofs.Ytapgnmigpfcdfaa.C
open Go Go.RowKit Go.Proofs.Ytapgnmigpfcdfaa.AL

theorem NetPlays.w (cz : List AV) (b : Nat) (h : ArgsOk prog 20 [3, 22] cz b) : Pure prog 4 cz (.bool true) := by
  obtain ⟨a, a', _, _, rfl, _, h, h'⟩ := args2 h
  obtain ⟨x, rfl, hx⟩ := arg_of_i64 Try.underlying3 h
  obtain ⟨l, rfl, hl⟩ := arg_nops h'
  exact law21_NetPlays.a x l hl

end Go.Proofs.Ytapgnmigpfcdfaa.C
