/-
  DERIVED. GIVEN WITH THE SEED: THE CARDS: each row of YtoiocfngjchdiaaGreatDoorRows.lean that lists a variable, with what it lists TIED to the program's text (the seventh form; the later family's looks); each row that meets fmt, with fmt's text TOLD by the authors' own Lean function (tested against real Go, not proved from fmt's source: count such statements apart). THE CARD IS WHAT COUNTS. Prove the row's statement (the work); the ties are given (YtoiocfngjchdiaaGreatDoorTie.lean); close each card by the builder's one call (the guide's Derived/Test/ToyasCard.lean, 'card_holds'). Laid BY PROGRAM, IN A SANDBOX (cutbox-door.mjs). By AI agents, Wed Nov 11 2026. No macro, syntax, notation, axiom, sorry.
-/
import Derived.Test.YtoiocfngjchdiaaGreatDoorRows
import GoSem.ClaimSeven
namespace Go.Proofs.YtoiocfngjchdiaaGreatDoor
namespace Rows

/-- THE TIED CARD OF 'restitchlaw26.PreludeMeans'. -/
def preludeMeansCard : Claim7 := { stood := { row := preludeMeansRow, standIns := [], harness := (true, "aa5152a5c11aa33d3735f61c555256ccf73bf2205b860317a52b227b4f422933"), looks := true }, kinds := [], alts := [], laidByText := true, laidKinds := [.data, .data, .data, .data, .sentinel, .sentinel, .pinned], laidTests := true, laidLooks := .later }
def PreludeMeansCardSaid : Prop := Claim7.holds Tryz.pinned (.plain (OpenSpec.ofChange preludeMeansSpec)) preludeMeansCard

/-- THE TIED CARD OF 'restitchlaw26.PreludeSteps'. -/
def preludeStepsCard : Claim7 := { stood := { row := preludeStepsRow, standIns := [], harness := (true, "aa5152a5c11aa33d3735f61c555256ccf73bf2205b860317a52b227b4f422933"), looks := true }, kinds := [], alts := [], laidByText := true, laidKinds := [.data, .data, .data, .data, .sentinel, .sentinel, .pinned], laidTests := true, laidLooks := .later }
def PreludeStepsCardSaid : Prop := Claim7.holds Tryz.pinned (.plain (OpenSpec.ofChange preludeStepsSpec)) preludeStepsCard

/-- THE TIED CARD OF 'restitchlaw26.PreludeSorts'. -/
def preludeSortsCard : Claim7 := { stood := { row := preludeSortsRow, standIns := [], harness := (true, "aa5152a5c11aa33d3735f61c555256ccf73bf2205b860317a52b227b4f422933"), looks := true }, kinds := [], alts := [], laidByText := true, laidKinds := [.data, .data, .data, .data, .sentinel, .sentinel, .pinned], laidTests := true, laidLooks := .later }
def PreludeSortsCardSaid : Prop := Claim7.holds Tryz.pinned (.plain (OpenSpec.ofChange preludeSortsSpec)) preludeSortsCard

/-- THE SECOND FORM's CARD OF 'restitchlaw26.PreludeMeans'. -/
def preludeMeansUptoCard : Claim7 := { stood := { row := preludeMeansUptoRow, standIns := [], harness := (true, "aa5152a5c11aa33d3735f61c555256ccf73bf2205b860317a52b227b4f422933"), looks := true }, kinds := [], alts := [], laidByText := true, laidKinds := [.data, .data, .data, .data, .sentinel, .sentinel, .pinned], laidTests := true, laidLooks := .later }
def PreludeMeansUptoCardSaid : Prop := Claim7.holds Tryz.pinned (.plain (OpenSpec.upto preludeMeansSpec)) preludeMeansUptoCard

/-- THE SECOND FORM's CARD OF 'restitchlaw26.PreludeSteps'. -/
def preludeStepsUptoCard : Claim7 := { stood := { row := preludeStepsUptoRow, standIns := [], harness := (true, "aa5152a5c11aa33d3735f61c555256ccf73bf2205b860317a52b227b4f422933"), looks := true }, kinds := [], alts := [], laidByText := true, laidKinds := [.data, .data, .data, .data, .sentinel, .sentinel, .pinned], laidTests := true, laidLooks := .later }
def PreludeStepsUptoCardSaid : Prop := Claim7.holds Tryz.pinned (.plain (OpenSpec.upto preludeStepsSpec)) preludeStepsUptoCard

/-- THE SECOND FORM's CARD OF 'restitchlaw26.PreludeSorts'. -/
def preludeSortsUptoCard : Claim7 := { stood := { row := preludeSortsUptoRow, standIns := [], harness := (true, "aa5152a5c11aa33d3735f61c555256ccf73bf2205b860317a52b227b4f422933"), looks := true }, kinds := [], alts := [], laidByText := true, laidKinds := [.data, .data, .data, .data, .sentinel, .sentinel, .pinned], laidTests := true, laidLooks := .later }
def PreludeSortsUptoCardSaid : Prop := Claim7.holds Tryz.pinned (.plain (OpenSpec.upto preludeSortsSpec)) preludeSortsUptoCard
end Rows
end Go.Proofs.YtoiocfngjchdiaaGreatDoor
