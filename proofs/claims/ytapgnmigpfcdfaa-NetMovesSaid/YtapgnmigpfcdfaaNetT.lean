/- Layer 21: the walk of NetMoves, as its row asks for it. -/
import Derived.Test.YtapgnmigpfcdfaaNetM
import Derived.Test.YtapgnmigpfcdfaaNetO
namespace Go.Proofs.Ytapgnmigpfcdfaa.C
open Go Go.RowKit Go.Proofs.Ytapgnmigpfcdfaa.AL

theorem NetMoves.w (cz : List AV) (b : Nat) (h : ArgsOk prog 20 [22, 5, 5] cz b) : Pure prog 3 cz (.bool true) := by
  obtain ⟨a, a', a'', _, _, _, rfl, _, h, h', h''⟩ := args3 h
  obtain ⟨l, rfl, hl⟩ := arg_nops h
  obtain ⟨x, rfl, hx⟩ := arg_of_u8 Try.underlying5 h'
  obtain ⟨y, rfl, hy⟩ := arg_of_u8 Try.underlying5 h''
  exact law21_NetMoves.a l hl x y hx hy

end Go.Proofs.Ytapgnmigpfcdfaa.C
