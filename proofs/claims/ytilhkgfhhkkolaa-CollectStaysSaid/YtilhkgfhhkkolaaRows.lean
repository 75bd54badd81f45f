/-
  No cell of these rows narrows 'for every input' (looked for: loops, veiled, ifaces, maps, wideKeys, modest, calm, conditions, laid).
  DERIVED. THE GIVEN ROWS OF THIS SEAT. 2 by the template 'for every input the law returns true; each argument reads behind the call as it read before'; 0 by the template 'total and deterministic' (their statements: YtilhkgfhhkkolaaTotals.lean).
  GIVEN WITH THE SEED: the statements are not yours to turn. If you find one false, say at which input.
  Laid BY PROGRAM, IN A SANDBOX (cutbox-rows.mjs): the forced cells as the released guide's own fill.sh prints them over the translation 9ba3fcbbd41a4fd9… (all of the seat's roots in one cut). By AI agents, Wed Nov 11 2026. No macro, syntax, notation, axiom, sorry.
-/
import Derived.Test.YtilhkgfhhkkolaaChecked
import GoSem.Claim
import GoSem.ClaimJoined
import GoSem.ClaimMapViews
import Derived.JoinedTies
import Derived.KernelRfl
namespace Go.Proofs.Ytilhkgfhhkkolaa
/- THE CELL 'sum', in the pinned program and in every row, IS THE sha256 OF THE DUMP (.gsa) THAT YtilhkgfhhkkolaaProg.lean LOADS. Nothing in Lean hashes anything: it is a label: what it is worth is what the hold of that sum in a sandbox is worth. -/
noncomputable def Try.pinned : Pinned := { name := "ytilhkgfhhkkolaa", sum := "9ba3fcbbd41a4fd9eb95689c84df882fd2f1f7160d075a8912138feab2d7a6c9", checked := Try.checked }
namespace Rows
def none {H : Type} : Left H := { results := [], args := [] }

/-- 'conclavelaw25.CollectFirst': WHATEVER THE INPUT: true; the input reads as it did. -/
def collectFirstSpec : ChangeSpec := { name := "collectFirst", fn := fun _ => fun
  | [d1, d2, d3] => { results := [.lit (.bool true)], args := [d1, d2, d3] }
  | _ => none }
def collectFirstRow : OpenClaim := { program := "ytilhkgfhhkkolaa", sum := "9ba3fcbbd41a4fd9eb95689c84df882fd2f1f7160d075a8912138feab2d7a6c9", func := "conclave/conclavelaw25.CollectFirst", spec := "collectFirst", unfollowed := true, recurses := true, apart := false }
def CollectFirstSaid : Prop := collectFirstRow.holds Try.pinned (OpenSpec.ofChange collectFirstSpec)

/-- ITS FALSE NEIGHBOUR: 'it returns false'. Refute it at one input. -/
def collectFirstWrong : ChangeSpec := { name := "collectFirst", fn := fun _ => fun
  | [d1, d2, d3] => { results := [.lit (.bool false)], args := [d1, d2, d3] }
  | _ => none }
def CollectFirstWrongFalsely : Prop := collectFirstRow.holds Try.pinned (OpenSpec.ofChange collectFirstWrong)

/-- 'conclavelaw25.CollectStays': WHATEVER THE INPUT: true; the input reads as it did. -/
def collectStaysSpec : ChangeSpec := { name := "collectStays", fn := fun _ => fun
  | [d1, d2, d3] => { results := [.lit (.bool true)], args := [d1, d2, d3] }
  | _ => none }
def collectStaysRow : OpenClaim := { program := "ytilhkgfhhkkolaa", sum := "9ba3fcbbd41a4fd9eb95689c84df882fd2f1f7160d075a8912138feab2d7a6c9", func := "conclave/conclavelaw25.CollectStays", spec := "collectStays", unfollowed := true, recurses := true, apart := false }
def CollectStaysSaid : Prop := collectStaysRow.holds Try.pinned (OpenSpec.ofChange collectStaysSpec)

/-- ITS FALSE NEIGHBOUR: 'it returns false'. Refute it at one input. -/
def collectStaysWrong : ChangeSpec := { name := "collectStays", fn := fun _ => fun
  | [d1, d2, d3] => { results := [.lit (.bool false)], args := [d1, d2, d3] }
  | _ => none }
def CollectStaysWrongFalsely : Prop := collectStaysRow.holds Try.pinned (OpenSpec.ofChange collectStaysWrong)

/- THE SECOND FORM. 'bulk': how many values and letters a reading holds, each counted each time it is reached (what is shared counts as often as it is met; a slice's spare places count too). A statement '..UptoSaid' is the law's where the arguments, and the package variables that the reading takes, are together of bulk at most 1048576: NARROWER than '..Said'. Prove '..Said' where nothing that the law and all that it calls make is longer than what came in: it says more and counts as full. Else prove '..UptoSaid'. A law counts once. -/
mutual
def uptoBulk {H : Type} : DataW H → Nat
  | .lit (.string bytes) => bytes.length + 1
  | .lit _ => 1
  | .nil => 1
  | .ptr d => uptoBulk d + 1
  | .slice elems spare => uptoBulkAll elems + uptoBulkAll spare + 1
  | .agg parts => uptoBulkAll parts + 1
  | .iface _ d => uptoBulk d + 1
  | .map entries => uptoBulkEntries entries + 1
  | .held _ => 1
def uptoBulkAll {H : Type} : List (DataW H) → Nat
  | [] => 0
  | d :: r => uptoBulk d + uptoBulkAll r
def uptoBulkEntries {H : Type} : List (Lit × DataW H) → Nat
  | [] => 0
  | x :: r => uptoBulkEntry x + uptoBulkEntries r
def uptoBulkEntry {H : Type} : Lit × DataW H → Nat
  | (.string bytes, d) => bytes.length + uptoBulk d + 1
  | (_, d) => uptoBulk d + 1
 end
def uptoSmall : (H : Type) → List (DataW H) → Bool := fun _ ds => decide (uptoBulkAll ds ≤ 1048576)
def OpenSpec.upto (s : _root_.Go.ChangeSpec) : _root_.Go.OpenSpec := { _root_.Go.OpenSpec.ofChange s with cond := some uptoSmall }

/-- 'conclavelaw25.CollectFirst', WHERE WHAT IT READS IS OF BULK AT MOST 1048576: true; the input reads as it did. -/
def collectFirstUptoRow : OpenClaim := { program := "ytilhkgfhhkkolaa", sum := "9ba3fcbbd41a4fd9eb95689c84df882fd2f1f7160d075a8912138feab2d7a6c9", func := "conclave/conclavelaw25.CollectFirst", spec := "collectFirst", unfollowed := true, recurses := true, apart := false, narrowed := true }
def CollectFirstUptoSaid : Prop := collectFirstUptoRow.holds Try.pinned (OpenSpec.upto collectFirstSpec)

/-- 'conclavelaw25.CollectStays', WHERE WHAT IT READS IS OF BULK AT MOST 1048576: true; the input reads as it did. -/
def collectStaysUptoRow : OpenClaim := { program := "ytilhkgfhhkkolaa", sum := "9ba3fcbbd41a4fd9eb95689c84df882fd2f1f7160d075a8912138feab2d7a6c9", func := "conclave/conclavelaw25.CollectStays", spec := "collectStays", unfollowed := true, recurses := true, apart := false, narrowed := true }
def CollectStaysUptoSaid : Prop := collectStaysUptoRow.holds Try.pinned (OpenSpec.upto collectStaysSpec)

end Rows
end Go.Proofs.Ytilhkgfhhkkolaa
