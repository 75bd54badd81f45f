/- The row's walk of SlpMays. -/
import Derived.Test.YtginchgkbgcimaaDoorSlpJ
import Derived.Test.YtginchgkbgcimaaDoorSlpM
namespace Go.Proofs.YtginchgkbgcimaaDoor.C
open Go Go.RowKit Go.Proofs.YtginchgkbgcimaaDoor.AL

theorem SlpMays.w2 (cz : List AV) (b : Nat) (h : ArgsOk prog 20 [25, 25] cz b) : Pure prog 5 cz (.bool true) := SlpMays.w anchored.q cz b h

end Go.Proofs.YtginchgkbgcimaaDoor.C
