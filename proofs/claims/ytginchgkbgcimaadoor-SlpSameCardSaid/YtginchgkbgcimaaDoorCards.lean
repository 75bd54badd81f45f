/-
  DERIVED. GIVEN WITH THE SEED: THE CARDS: each row of YtginchgkbgcimaaDoorRows.lean that lists a variable, with what it lists TIED to the program's text (the seventh form; the later family's looks); each row that meets fmt, with fmt's text TOLD by the authors' own Lean function (tested against real Go, not proved from fmt's source: count such statements apart). THE CARD IS WHAT COUNTS. Prove the row's statement (the work); the ties are given (YtginchgkbgcimaaDoorTie.lean); close each card by the builder's one call (the guide's Derived/Test/ToyasCard.lean, 'card_holds'). Laid BY PROGRAM, IN A SANDBOX (cutbox-door.mjs). By AI agents, Wed Nov 11 2026. No macro, syntax, notation, axiom, sorry.
-/
import Derived.Test.YtginchgkbgcimaaDoorRows
import GoSem.ClaimSeven
namespace Go.Proofs.YtginchgkbgcimaaDoor
namespace Rows

/-- THE TIED CARD OF 'conclavelaw09.SlpTexts'. -/
def slpTextsCard : Claim7 := { stood := { row := slpTextsRow, standIns := [], harness := (true, "2e360d3c2d67bd74bbdabee5a283eb630af0760155490505942950f3df5f5284"), looks := true }, kinds := [], alts := [], laidByText := true, laidKinds := [.data, .data, .data, .data, .sentinel, .sentinel, .pinned], laidTests := true, laidLooks := .later }
def SlpTextsCardSaid : Prop := Claim7.holds Tryd.pinned (.plain (OpenSpec.ofChange slpTextsSpec)) slpTextsCard

/-- THE TIED CARD OF 'conclavelaw09.SlpBack'. -/
def slpBackCard : Claim7 := { stood := { row := slpBackRow, standIns := [], harness := (true, "2e360d3c2d67bd74bbdabee5a283eb630af0760155490505942950f3df5f5284"), looks := true }, kinds := [], alts := [], laidByText := true, laidKinds := [.data, .data, .data, .data, .sentinel, .sentinel, .pinned], laidTests := true, laidLooks := .later }
def SlpBackCardSaid : Prop := Claim7.holds Tryd.pinned (.plain (OpenSpec.ofChange slpBackSpec)) slpBackCard

/-- THE TIED CARD OF 'conclavelaw09.SlpMays'. -/
def slpMaysCard : Claim7 := { stood := { row := slpMaysRow, standIns := [], harness := (true, "2e360d3c2d67bd74bbdabee5a283eb630af0760155490505942950f3df5f5284"), looks := true }, kinds := [], alts := [], laidByText := true, laidKinds := [.data, .data, .data, .data, .sentinel, .sentinel, .pinned], laidTests := true, laidLooks := .later }
def SlpMaysCardSaid : Prop := Claim7.holds Tryd.pinned (.plain (OpenSpec.ofChange slpMaysSpec)) slpMaysCard

/-- THE TIED CARD OF 'conclavelaw09.SlpAfters'. -/
def slpAftersCard : Claim7 := { stood := { row := slpAftersRow, standIns := [], harness := (true, "2e360d3c2d67bd74bbdabee5a283eb630af0760155490505942950f3df5f5284"), looks := true }, kinds := [], alts := [], laidByText := true, laidKinds := [.data, .data, .data, .data, .sentinel, .sentinel, .pinned], laidTests := true, laidLooks := .later }
def SlpAftersCardSaid : Prop := Claim7.holds Tryd.pinned (.plain (OpenSpec.ofChange slpAftersSpec)) slpAftersCard

/-- THE TIED CARD OF 'conclavelaw09.SlpSame'. -/
def slpSameCard : Claim7 := { stood := { row := slpSameRow, standIns := [], harness := (true, "2e360d3c2d67bd74bbdabee5a283eb630af0760155490505942950f3df5f5284"), looks := true }, kinds := [], alts := [], laidByText := true, laidKinds := [.data, .data, .data, .data, .sentinel, .sentinel, .pinned], laidTests := true, laidLooks := .later }
def SlpSameCardSaid : Prop := Claim7.holds Tryd.pinned (.plain (OpenSpec.ofChange slpSameSpec)) slpSameCard

/-- THE TIED CARD OF 'conclavelaw09.SlpFresh'. -/
def slpFreshCard : Claim7 := { stood := { row := slpFreshRow, standIns := [], harness := (true, "2e360d3c2d67bd74bbdabee5a283eb630af0760155490505942950f3df5f5284"), looks := true }, kinds := [], alts := [], laidByText := true, laidKinds := [.data, .data, .data, .data, .sentinel, .sentinel, .pinned], laidTests := true, laidLooks := .later }
def SlpFreshCardSaid : Prop := Claim7.holds Tryd.pinned (.plain (OpenSpec.ofChange slpFreshSpec)) slpFreshCard

/-- THE SECOND FORM's CARD OF 'conclavelaw09.SlpTexts'. -/
def slpTextsUptoCard : Claim7 := { stood := { row := slpTextsUptoRow, standIns := [], harness := (true, "2e360d3c2d67bd74bbdabee5a283eb630af0760155490505942950f3df5f5284"), looks := true }, kinds := [], alts := [], laidByText := true, laidKinds := [.data, .data, .data, .data, .sentinel, .sentinel, .pinned], laidTests := true, laidLooks := .later }
def SlpTextsUptoCardSaid : Prop := Claim7.holds Tryd.pinned (.plain (OpenSpec.upto slpTextsSpec)) slpTextsUptoCard

/-- THE SECOND FORM's CARD OF 'conclavelaw09.SlpBack'. -/
def slpBackUptoCard : Claim7 := { stood := { row := slpBackUptoRow, standIns := [], harness := (true, "2e360d3c2d67bd74bbdabee5a283eb630af0760155490505942950f3df5f5284"), looks := true }, kinds := [], alts := [], laidByText := true, laidKinds := [.data, .data, .data, .data, .sentinel, .sentinel, .pinned], laidTests := true, laidLooks := .later }
def SlpBackUptoCardSaid : Prop := Claim7.holds Tryd.pinned (.plain (OpenSpec.upto slpBackSpec)) slpBackUptoCard

/-- THE SECOND FORM's CARD OF 'conclavelaw09.SlpMays'. -/
def slpMaysUptoCard : Claim7 := { stood := { row := slpMaysUptoRow, standIns := [], harness := (true, "2e360d3c2d67bd74bbdabee5a283eb630af0760155490505942950f3df5f5284"), looks := true }, kinds := [], alts := [], laidByText := true, laidKinds := [.data, .data, .data, .data, .sentinel, .sentinel, .pinned], laidTests := true, laidLooks := .later }
def SlpMaysUptoCardSaid : Prop := Claim7.holds Tryd.pinned (.plain (OpenSpec.upto slpMaysSpec)) slpMaysUptoCard

/-- THE SECOND FORM's CARD OF 'conclavelaw09.SlpAfters'. -/
def slpAftersUptoCard : Claim7 := { stood := { row := slpAftersUptoRow, standIns := [], harness := (true, "2e360d3c2d67bd74bbdabee5a283eb630af0760155490505942950f3df5f5284"), looks := true }, kinds := [], alts := [], laidByText := true, laidKinds := [.data, .data, .data, .data, .sentinel, .sentinel, .pinned], laidTests := true, laidLooks := .later }
def SlpAftersUptoCardSaid : Prop := Claim7.holds Tryd.pinned (.plain (OpenSpec.upto slpAftersSpec)) slpAftersUptoCard

/-- THE SECOND FORM's CARD OF 'conclavelaw09.SlpSame'. -/
def slpSameUptoCard : Claim7 := { stood := { row := slpSameUptoRow, standIns := [], harness := (true, "2e360d3c2d67bd74bbdabee5a283eb630af0760155490505942950f3df5f5284"), looks := true }, kinds := [], alts := [], laidByText := true, laidKinds := [.data, .data, .data, .data, .sentinel, .sentinel, .pinned], laidTests := true, laidLooks := .later }
def SlpSameUptoCardSaid : Prop := Claim7.holds Tryd.pinned (.plain (OpenSpec.upto slpSameSpec)) slpSameUptoCard

/-- THE SECOND FORM's CARD OF 'conclavelaw09.SlpFresh'. -/
def slpFreshUptoCard : Claim7 := { stood := { row := slpFreshUptoRow, standIns := [], harness := (true, "2e360d3c2d67bd74bbdabee5a283eb630af0760155490505942950f3df5f5284"), looks := true }, kinds := [], alts := [], laidByText := true, laidKinds := [.data, .data, .data, .data, .sentinel, .sentinel, .pinned], laidTests := true, laidLooks := .later }
def SlpFreshUptoCardSaid : Prop := Claim7.holds Tryd.pinned (.plain (OpenSpec.upto slpFreshSpec)) slpFreshUptoCard
end Rows
end Go.Proofs.YtginchgkbgcimaaDoor
