/-
  No cell of these rows narrows 'for every input' (looked for: loops, veiled, ifaces, maps, wideKeys, modest, calm, conditions, laid).
  DERIVED. THE GIVEN ROWS OF THIS SEAT. 5 by the template 'for every input the law returns true; each argument reads behind the call as it read before'; 0 by the template 'total and deterministic' (their statements: YtiionlbepecmjaaTotals.lean).
  GIVEN WITH THE SEED: the statements are not yours to turn. If you find one false, say at which input.
  Laid BY PROGRAM, IN A SANDBOX (cutbox-rows.mjs): the forced cells as the released guide's own fill.sh prints them over the translation 932098ac25db8562… (all of the seat's roots in one cut). By AI agents, Wed Nov 11 2026. No macro, syntax, notation, axiom, sorry.
-/
import Derived.Test.YtiionlbepecmjaaChecked
import GoSem.Claim
import GoSem.ClaimJoined
import GoSem.ClaimMapViews
import Derived.JoinedTies
import Derived.KernelRfl
namespace Go.Proofs.Ytiionlbepecmjaa
/- THE CELL 'sum', in the pinned program and in every row, IS THE sha256 OF THE DUMP (.gsa) THAT YtiionlbepecmjaaProg.lean LOADS. Nothing in Lean hashes anything: it is a label: what it is worth is what the hold of that sum in a sandbox is worth. -/
noncomputable def Try.pinned : Pinned := { name := "ytiionlbepecmjaa", sum := "932098ac25db8562ce449bf0e263c56546509b4a1c23662fbef6dd1aa80b6030", checked := Try.checked }
namespace Rows
def none {H : Type} : Left H := { results := [], args := [] }

/-- 'conclavelaw12.PlanEasier': WHATEVER THE INPUT: true; the input reads as it did. -/
def planEasierSpec : ChangeSpec := { name := "planEasier", fn := fun _ => fun
  | [d] => { results := [.lit (.bool true)], args := [d] }
  | _ => none }
def planEasierRow : OpenClaim := { program := "ytiionlbepecmjaa", sum := "932098ac25db8562ce449bf0e263c56546509b4a1c23662fbef6dd1aa80b6030", func := "conclave/conclavelaw12.PlanEasier", spec := "planEasier", apart := false }
def PlanEasierSaid : Prop := planEasierRow.holds Try.pinned (OpenSpec.ofChange planEasierSpec)

/-- ITS FALSE NEIGHBOUR: 'it returns false'. Refute it at one input. -/
def planEasierWrong : ChangeSpec := { name := "planEasier", fn := fun _ => fun
  | [d] => { results := [.lit (.bool false)], args := [d] }
  | _ => none }
def PlanEasierWrongFalsely : Prop := planEasierRow.holds Try.pinned (OpenSpec.ofChange planEasierWrong)

/-- 'conclavelaw12.PlanLeft': WHATEVER THE INPUT: true; the input reads as it did. -/
def planLeftSpec : ChangeSpec := { name := "planLeft", fn := fun _ => fun
  | [d1, d2] => { results := [.lit (.bool true)], args := [d1, d2] }
  | _ => none }
def planLeftRow : OpenClaim := { program := "ytiionlbepecmjaa", sum := "932098ac25db8562ce449bf0e263c56546509b4a1c23662fbef6dd1aa80b6030", func := "conclave/conclavelaw12.PlanLeft", spec := "planLeft", apart := false }
def PlanLeftSaid : Prop := planLeftRow.holds Try.pinned (OpenSpec.ofChange planLeftSpec)

/-- ITS FALSE NEIGHBOUR: 'it returns false'. Refute it at one input. -/
def planLeftWrong : ChangeSpec := { name := "planLeft", fn := fun _ => fun
  | [d1, d2] => { results := [.lit (.bool false)], args := [d1, d2] }
  | _ => none }
def PlanLeftWrongFalsely : Prop := planLeftRow.holds Try.pinned (OpenSpec.ofChange planLeftWrong)

/-- 'conclavelaw12.PlanWide': WHATEVER THE INPUT: true; the input reads as it did. -/
def planWideSpec : ChangeSpec := { name := "planWide", fn := fun _ => fun
  | [d] => { results := [.lit (.bool true)], args := [d] }
  | _ => none }
def planWideRow : OpenClaim := { program := "ytiionlbepecmjaa", sum := "932098ac25db8562ce449bf0e263c56546509b4a1c23662fbef6dd1aa80b6030", func := "conclave/conclavelaw12.PlanWide", spec := "planWide", apart := false }
def PlanWideSaid : Prop := planWideRow.holds Try.pinned (OpenSpec.ofChange planWideSpec)

/-- ITS FALSE NEIGHBOUR: 'it returns false'. Refute it at one input. -/
def planWideWrong : ChangeSpec := { name := "planWide", fn := fun _ => fun
  | [d] => { results := [.lit (.bool false)], args := [d] }
  | _ => none }
def PlanWideWrongFalsely : Prop := planWideRow.holds Try.pinned (OpenSpec.ofChange planWideWrong)

/-- 'conclavelaw12.PlanAll': WHATEVER THE INPUT: true; the input reads as it did. -/
def planAllSpec : ChangeSpec := { name := "planAll", fn := fun _ => fun
  | [d] => { results := [.lit (.bool true)], args := [d] }
  | _ => none }
def planAllRow : OpenClaim := { program := "ytiionlbepecmjaa", sum := "932098ac25db8562ce449bf0e263c56546509b4a1c23662fbef6dd1aa80b6030", func := "conclave/conclavelaw12.PlanAll", spec := "planAll", apart := false }
def PlanAllSaid : Prop := planAllRow.holds Try.pinned (OpenSpec.ofChange planAllSpec)

/-- ITS FALSE NEIGHBOUR: 'it returns false'. Refute it at one input. -/
def planAllWrong : ChangeSpec := { name := "planAll", fn := fun _ => fun
  | [d] => { results := [.lit (.bool false)], args := [d] }
  | _ => none }
def PlanAllWrongFalsely : Prop := planAllRow.holds Try.pinned (OpenSpec.ofChange planAllWrong)

/-- 'conclavelaw12.PlanTurns': WHATEVER THE INPUT: true; the input reads as it did. -/
def planTurnsSpec : ChangeSpec := { name := "planTurns", fn := fun _ => fun
  | [d1, d2] => { results := [.lit (.bool true)], args := [d1, d2] }
  | _ => none }
def planTurnsRow : OpenClaim := { program := "ytiionlbepecmjaa", sum := "932098ac25db8562ce449bf0e263c56546509b4a1c23662fbef6dd1aa80b6030", func := "conclave/conclavelaw12.PlanTurns", spec := "planTurns", apart := false }
def PlanTurnsSaid : Prop := planTurnsRow.holds Try.pinned (OpenSpec.ofChange planTurnsSpec)

/-- ITS FALSE NEIGHBOUR: 'it returns false'. Refute it at one input. -/
def planTurnsWrong : ChangeSpec := { name := "planTurns", fn := fun _ => fun
  | [d1, d2] => { results := [.lit (.bool false)], args := [d1, d2] }
  | _ => none }
def PlanTurnsWrongFalsely : Prop := planTurnsRow.holds Try.pinned (OpenSpec.ofChange planTurnsWrong)

/- THE SECOND FORM. 'bulk': how many values and letters a reading holds, each counted each time it is reached (what is shared counts as often as it is met; a slice's spare places count too). A statement '..UptoSaid' is the law's where the arguments, and the package variables that the reading takes, are together of bulk at most 1048576: NARROWER than '..Said'. Prove '..Said' where nothing that the law and all that it calls make is longer than what came in: it says more and counts as full. Else prove '..UptoSaid'. A law counts once. -/
mutual
def uptoBulk {H : Type} : DataW H → Nat
  | .lit (.string bytes) => bytes.length + 1
  | .lit _ => 1
  | .nil => 1
  | .ptr d => uptoBulk d + 1
  | .slice elems spare => uptoBulkAll elems + uptoBulkAll spare + 1
  | .agg parts => uptoBulkAll parts + 1
  | .iface _ d => uptoBulk d + 1
  | .map entries => uptoBulkEntries entries + 1
  | .held _ => 1
def uptoBulkAll {H : Type} : List (DataW H) → Nat
  | [] => 0
  | d :: r => uptoBulk d + uptoBulkAll r
def uptoBulkEntries {H : Type} : List (Lit × DataW H) → Nat
  | [] => 0
  | x :: r => uptoBulkEntry x + uptoBulkEntries r
def uptoBulkEntry {H : Type} : Lit × DataW H → Nat
  | (.string bytes, d) => bytes.length + uptoBulk d + 1
  | (_, d) => uptoBulk d + 1
 end
def uptoSmall : (H : Type) → List (DataW H) → Bool := fun _ ds => decide (uptoBulkAll ds ≤ 1048576)
def OpenSpec.upto (s : _root_.Go.ChangeSpec) : _root_.Go.OpenSpec := { _root_.Go.OpenSpec.ofChange s with cond := some uptoSmall }

/-- 'conclavelaw12.PlanEasier', WHERE WHAT IT READS IS OF BULK AT MOST 1048576: true; the input reads as it did. -/
def planEasierUptoRow : OpenClaim := { program := "ytiionlbepecmjaa", sum := "932098ac25db8562ce449bf0e263c56546509b4a1c23662fbef6dd1aa80b6030", func := "conclave/conclavelaw12.PlanEasier", spec := "planEasier", apart := false, narrowed := true }
def PlanEasierUptoSaid : Prop := planEasierUptoRow.holds Try.pinned (OpenSpec.upto planEasierSpec)

/-- 'conclavelaw12.PlanLeft', WHERE WHAT IT READS IS OF BULK AT MOST 1048576: true; the input reads as it did. -/
def planLeftUptoRow : OpenClaim := { program := "ytiionlbepecmjaa", sum := "932098ac25db8562ce449bf0e263c56546509b4a1c23662fbef6dd1aa80b6030", func := "conclave/conclavelaw12.PlanLeft", spec := "planLeft", apart := false, narrowed := true }
def PlanLeftUptoSaid : Prop := planLeftUptoRow.holds Try.pinned (OpenSpec.upto planLeftSpec)

/-- 'conclavelaw12.PlanWide', WHERE WHAT IT READS IS OF BULK AT MOST 1048576: true; the input reads as it did. -/
def planWideUptoRow : OpenClaim := { program := "ytiionlbepecmjaa", sum := "932098ac25db8562ce449bf0e263c56546509b4a1c23662fbef6dd1aa80b6030", func := "conclave/conclavelaw12.PlanWide", spec := "planWide", apart := false, narrowed := true }
def PlanWideUptoSaid : Prop := planWideUptoRow.holds Try.pinned (OpenSpec.upto planWideSpec)

/-- 'conclavelaw12.PlanAll', WHERE WHAT IT READS IS OF BULK AT MOST 1048576: true; the input reads as it did. -/
def planAllUptoRow : OpenClaim := { program := "ytiionlbepecmjaa", sum := "932098ac25db8562ce449bf0e263c56546509b4a1c23662fbef6dd1aa80b6030", func := "conclave/conclavelaw12.PlanAll", spec := "planAll", apart := false, narrowed := true }
def PlanAllUptoSaid : Prop := planAllUptoRow.holds Try.pinned (OpenSpec.upto planAllSpec)

/-- 'conclavelaw12.PlanTurns', WHERE WHAT IT READS IS OF BULK AT MOST 1048576: true; the input reads as it did. -/
def planTurnsUptoRow : OpenClaim := { program := "ytiionlbepecmjaa", sum := "932098ac25db8562ce449bf0e263c56546509b4a1c23662fbef6dd1aa80b6030", func := "conclave/conclavelaw12.PlanTurns", spec := "planTurns", apart := false, narrowed := true }
def PlanTurnsUptoSaid : Prop := planTurnsUptoRow.holds Try.pinned (OpenSpec.upto planTurnsSpec)

end Rows
end Go.Proofs.Ytiionlbepecmjaa
