/-
  No cell of these rows narrows 'for every input' (looked for: loops, veiled, ifaces, maps, wideKeys, modest, calm, conditions, laid).
  DERIVED. THE GIVEN ROWS OF THIS SEAT. 5 by the template 'for every input the law returns true; each argument reads behind the call as it read before'; 0 by the template 'total and deterministic' (their statements: YtbalpmdoeikkbaaTotals.lean).
  GIVEN WITH THE SEED: the statements are not yours to turn. If you find one false, say at which input.
  Laid BY PROGRAM, IN A SANDBOX (cutbox-rows.mjs): the forced cells as the released guide's own fill.sh prints them over the translation e8f5cb9b9fa82cae… (all of the seat's roots in one cut). By AI agents, Wed Nov 11 2026. No macro, syntax, notation, axiom, sorry.
-/
import Derived.Test.YtbalpmdoeikkbaaChecked
import GoSem.Claim
import GoSem.ClaimJoined
import GoSem.ClaimMapViews
import Derived.JoinedTies
import Derived.KernelRfl
namespace Go.Proofs.Ytbalpmdoeikkbaa
/- THE CELL 'sum', in the pinned program and in every row, IS THE sha256 OF THE DUMP (.gsa) THAT YtbalpmdoeikkbaaProg.lean LOADS. Nothing in Lean hashes anything: it is a label: what it is worth is what the hold of that sum in a sandbox is worth. -/
noncomputable def Try.pinned : Pinned := { name := "ytbalpmdoeikkbaa", sum := "e8f5cb9b9fa82caef8194e5f39a784bb2e6c1f827ab0900edbe4cd3566307255", checked := Try.checked }
namespace Rows
def none {H : Type} : Left H := { results := [], args := [] }

/-- 'conclavelaw28.ReplanFresh': WHATEVER THE INPUT: true; the input reads as it did. -/
def replanFreshSpec : ChangeSpec := { name := "replanFresh", fn := fun _ => fun
  | [d1, d2, d3] => { results := [.lit (.bool true)], args := [d1, d2, d3] }
  | _ => none }
def replanFreshRow : OpenClaim := { program := "ytbalpmdoeikkbaa", sum := "e8f5cb9b9fa82caef8194e5f39a784bb2e6c1f827ab0900edbe4cd3566307255", func := "conclave/conclavelaw28.ReplanFresh", spec := "replanFresh", unfollowed := true, recurses := true, apart := false }
def ReplanFreshSaid : Prop := replanFreshRow.holds Try.pinned (OpenSpec.ofChange replanFreshSpec)

/-- ITS FALSE NEIGHBOUR: 'it returns false'. Refute it at one input. -/
def replanFreshWrong : ChangeSpec := { name := "replanFresh", fn := fun _ => fun
  | [d1, d2, d3] => { results := [.lit (.bool false)], args := [d1, d2, d3] }
  | _ => none }
def ReplanFreshWrongFalsely : Prop := replanFreshRow.holds Try.pinned (OpenSpec.ofChange replanFreshWrong)

/-- 'conclavelaw28.ReplanExcludes': WHATEVER THE INPUT: true; the input reads as it did. -/
def replanExcludesSpec : ChangeSpec := { name := "replanExcludes", fn := fun _ => fun
  | [d1, d2, d3] => { results := [.lit (.bool true)], args := [d1, d2, d3] }
  | _ => none }
def replanExcludesRow : OpenClaim := { program := "ytbalpmdoeikkbaa", sum := "e8f5cb9b9fa82caef8194e5f39a784bb2e6c1f827ab0900edbe4cd3566307255", func := "conclave/conclavelaw28.ReplanExcludes", spec := "replanExcludes", unfollowed := true, recurses := true, apart := false }
def ReplanExcludesSaid : Prop := replanExcludesRow.holds Try.pinned (OpenSpec.ofChange replanExcludesSpec)

/-- ITS FALSE NEIGHBOUR: 'it returns false'. Refute it at one input. -/
def replanExcludesWrong : ChangeSpec := { name := "replanExcludes", fn := fun _ => fun
  | [d1, d2, d3] => { results := [.lit (.bool false)], args := [d1, d2, d3] }
  | _ => none }
def ReplanExcludesWrongFalsely : Prop := replanExcludesRow.holds Try.pinned (OpenSpec.ofChange replanExcludesWrong)

/-- 'conclavelaw28.ReplanStays': WHATEVER THE INPUT: true; the input reads as it did. -/
def replanStaysSpec : ChangeSpec := { name := "replanStays", fn := fun _ => fun
  | [d1, d2] => { results := [.lit (.bool true)], args := [d1, d2] }
  | _ => none }
def replanStaysRow : OpenClaim := { program := "ytbalpmdoeikkbaa", sum := "e8f5cb9b9fa82caef8194e5f39a784bb2e6c1f827ab0900edbe4cd3566307255", func := "conclave/conclavelaw28.ReplanStays", spec := "replanStays", unfollowed := true, recurses := true, apart := false }
def ReplanStaysSaid : Prop := replanStaysRow.holds Try.pinned (OpenSpec.ofChange replanStaysSpec)

/-- ITS FALSE NEIGHBOUR: 'it returns false'. Refute it at one input. -/
def replanStaysWrong : ChangeSpec := { name := "replanStays", fn := fun _ => fun
  | [d1, d2] => { results := [.lit (.bool false)], args := [d1, d2] }
  | _ => none }
def ReplanStaysWrongFalsely : Prop := replanStaysRow.holds Try.pinned (OpenSpec.ofChange replanStaysWrong)

/-- 'conclavelaw28.ReplanChains': WHATEVER THE INPUT: true; the input reads as it did. -/
def replanChainsSpec : ChangeSpec := { name := "replanChains", fn := fun _ => fun
  | [d1, d2] => { results := [.lit (.bool true)], args := [d1, d2] }
  | _ => none }
def replanChainsRow : OpenClaim := { program := "ytbalpmdoeikkbaa", sum := "e8f5cb9b9fa82caef8194e5f39a784bb2e6c1f827ab0900edbe4cd3566307255", func := "conclave/conclavelaw28.ReplanChains", spec := "replanChains", unfollowed := true, recurses := true, apart := false }
def ReplanChainsSaid : Prop := replanChainsRow.holds Try.pinned (OpenSpec.ofChange replanChainsSpec)

/-- ITS FALSE NEIGHBOUR: 'it returns false'. Refute it at one input. -/
def replanChainsWrong : ChangeSpec := { name := "replanChains", fn := fun _ => fun
  | [d1, d2] => { results := [.lit (.bool false)], args := [d1, d2] }
  | _ => none }
def ReplanChainsWrongFalsely : Prop := replanChainsRow.holds Try.pinned (OpenSpec.ofChange replanChainsWrong)

/-- 'conclavelaw28.ReplanOnce': WHATEVER THE INPUT: true; the input reads as it did. -/
def replanOnceSpec : ChangeSpec := { name := "replanOnce", fn := fun _ => fun
  | [d1, d2] => { results := [.lit (.bool true)], args := [d1, d2] }
  | _ => none }
def replanOnceRow : OpenClaim := { program := "ytbalpmdoeikkbaa", sum := "e8f5cb9b9fa82caef8194e5f39a784bb2e6c1f827ab0900edbe4cd3566307255", func := "conclave/conclavelaw28.ReplanOnce", spec := "replanOnce", unfollowed := true, recurses := true, apart := false }
def ReplanOnceSaid : Prop := replanOnceRow.holds Try.pinned (OpenSpec.ofChange replanOnceSpec)

/-- ITS FALSE NEIGHBOUR: 'it returns false'. Refute it at one input. -/
def replanOnceWrong : ChangeSpec := { name := "replanOnce", fn := fun _ => fun
  | [d1, d2] => { results := [.lit (.bool false)], args := [d1, d2] }
  | _ => none }
def ReplanOnceWrongFalsely : Prop := replanOnceRow.holds Try.pinned (OpenSpec.ofChange replanOnceWrong)

/- THE SECOND FORM. 'bulk': how many values and letters a reading holds, each counted each time it is reached (what is shared counts as often as it is met; a slice's spare places count too). A statement '..UptoSaid' is the law's where the arguments, and the package variables that the reading takes, are together of bulk at most 1048576: NARROWER than '..Said'. Prove '..Said' where nothing that the law and all that it calls make is longer than what came in: it says more and counts as full. Else prove '..UptoSaid'. A law counts once. -/
mutual
def uptoBulk {H : Type} : DataW H → Nat
  | .lit (.string bytes) => bytes.length + 1
  | .lit _ => 1
  | .nil => 1
  | .ptr d => uptoBulk d + 1
  | .slice elems spare => uptoBulkAll elems + uptoBulkAll spare + 1
  | .agg parts => uptoBulkAll parts + 1
  | .iface _ d => uptoBulk d + 1
  | .map entries => uptoBulkEntries entries + 1
  | .held _ => 1
def uptoBulkAll {H : Type} : List (DataW H) → Nat
  | [] => 0
  | d :: r => uptoBulk d + uptoBulkAll r
def uptoBulkEntries {H : Type} : List (Lit × DataW H) → Nat
  | [] => 0
  | x :: r => uptoBulkEntry x + uptoBulkEntries r
def uptoBulkEntry {H : Type} : Lit × DataW H → Nat
  | (.string bytes, d) => bytes.length + uptoBulk d + 1
  | (_, d) => uptoBulk d + 1
 end
def uptoSmall : (H : Type) → List (DataW H) → Bool := fun _ ds => decide (uptoBulkAll ds ≤ 1048576)
def OpenSpec.upto (s : _root_.Go.ChangeSpec) : _root_.Go.OpenSpec := { _root_.Go.OpenSpec.ofChange s with cond := some uptoSmall }

/-- 'conclavelaw28.ReplanFresh', WHERE WHAT IT READS IS OF BULK AT MOST 1048576: true; the input reads as it did. -/
def replanFreshUptoRow : OpenClaim := { program := "ytbalpmdoeikkbaa", sum := "e8f5cb9b9fa82caef8194e5f39a784bb2e6c1f827ab0900edbe4cd3566307255", func := "conclave/conclavelaw28.ReplanFresh", spec := "replanFresh", unfollowed := true, recurses := true, apart := false, narrowed := true }
def ReplanFreshUptoSaid : Prop := replanFreshUptoRow.holds Try.pinned (OpenSpec.upto replanFreshSpec)

/-- 'conclavelaw28.ReplanExcludes', WHERE WHAT IT READS IS OF BULK AT MOST 1048576: true; the input reads as it did. -/
def replanExcludesUptoRow : OpenClaim := { program := "ytbalpmdoeikkbaa", sum := "e8f5cb9b9fa82caef8194e5f39a784bb2e6c1f827ab0900edbe4cd3566307255", func := "conclave/conclavelaw28.ReplanExcludes", spec := "replanExcludes", unfollowed := true, recurses := true, apart := false, narrowed := true }
def ReplanExcludesUptoSaid : Prop := replanExcludesUptoRow.holds Try.pinned (OpenSpec.upto replanExcludesSpec)

/-- 'conclavelaw28.ReplanStays', WHERE WHAT IT READS IS OF BULK AT MOST 1048576: true; the input reads as it did. -/
def replanStaysUptoRow : OpenClaim := { program := "ytbalpmdoeikkbaa", sum := "e8f5cb9b9fa82caef8194e5f39a784bb2e6c1f827ab0900edbe4cd3566307255", func := "conclave/conclavelaw28.ReplanStays", spec := "replanStays", unfollowed := true, recurses := true, apart := false, narrowed := true }
def ReplanStaysUptoSaid : Prop := replanStaysUptoRow.holds Try.pinned (OpenSpec.upto replanStaysSpec)

/-- 'conclavelaw28.ReplanChains', WHERE WHAT IT READS IS OF BULK AT MOST 1048576: true; the input reads as it did. -/
def replanChainsUptoRow : OpenClaim := { program := "ytbalpmdoeikkbaa", sum := "e8f5cb9b9fa82caef8194e5f39a784bb2e6c1f827ab0900edbe4cd3566307255", func := "conclave/conclavelaw28.ReplanChains", spec := "replanChains", unfollowed := true, recurses := true, apart := false, narrowed := true }
def ReplanChainsUptoSaid : Prop := replanChainsUptoRow.holds Try.pinned (OpenSpec.upto replanChainsSpec)

/-- 'conclavelaw28.ReplanOnce', WHERE WHAT IT READS IS OF BULK AT MOST 1048576: true; the input reads as it did. -/
def replanOnceUptoRow : OpenClaim := { program := "ytbalpmdoeikkbaa", sum := "e8f5cb9b9fa82caef8194e5f39a784bb2e6c1f827ab0900edbe4cd3566307255", func := "conclave/conclavelaw28.ReplanOnce", spec := "replanOnce", unfollowed := true, recurses := true, apart := false, narrowed := true }
def ReplanOnceUptoSaid : Prop := replanOnceUptoRow.holds Try.pinned (OpenSpec.upto replanOnceSpec)

end Rows
end Go.Proofs.Ytbalpmdoeikkbaa
