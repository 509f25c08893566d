/-
  DERIVED. GIVEN WITH THE SEED: THE CARDS: each row of YtdkkaldimefljaaGreatDoorRows.lean that lists a variable, with what it lists TIED to the program's text (the seventh form; the later family's looks); each row that meets fmt, with fmt's text TOLD by the authors' own Lean function (tested against real Go, not proved from fmt's source: count such statements apart). THE CARD IS WHAT COUNTS. Prove the row's statement (the work); the ties are given (YtdkkaldimefljaaGreatDoorTie.lean); close each card by the builder's one call (the guide's Derived/Test/ToyasCard.lean, 'card_holds'). Laid BY PROGRAM, IN A SANDBOX (cutbox-door.mjs). By AI agents, Wed Nov 11 2026. No macro, syntax, notation, axiom, sorry.
-/
import Derived.Test.YtdkkaldimefljaaGreatDoorRows
import GoSem.ClaimSeven
namespace Go.Proofs.YtdkkaldimefljaaGreatDoor
namespace Rows

/-- THE TIED CARD OF 'restitchlaw26.PreludeTrees'. -/
def preludeTreesCard : Claim7 := { stood := { row := preludeTreesRow, standIns := [], harness := (true, "64fc13c8facb05c8e0bf27cc8f3846c6e980340602d15269678357b2703d618e"), looks := true }, kinds := [], alts := [], laidByText := true, laidKinds := [.data, .data, .data, .data, .sentinel, .sentinel, .pinned], laidTests := true, laidLooks := .later }
def PreludeTreesCardSaid : Prop := Claim7.holds Tryz.pinned (.plain (OpenSpec.ofChange preludeTreesSpec)) preludeTreesCard

/-- THE TIED CARD OF 'restitchlaw26.PreludeLaws'. -/
def preludeLawsCard : Claim7 := { stood := { row := preludeLawsRow, standIns := [], harness := (true, "64fc13c8facb05c8e0bf27cc8f3846c6e980340602d15269678357b2703d618e"), looks := true }, kinds := [], alts := [], laidByText := true, laidKinds := [.data, .data, .data, .data, .sentinel, .sentinel, .pinned], laidTests := true, laidLooks := .later }
def PreludeLawsCardSaid : Prop := Claim7.holds Tryz.pinned (.plain (OpenSpec.ofChange preludeLawsSpec)) preludeLawsCard

/-- THE TIED CARD OF 'restitchlaw26.PreludeLists'. -/
def preludeListsCard : Claim7 := { stood := { row := preludeListsRow, standIns := [], harness := (true, "64fc13c8facb05c8e0bf27cc8f3846c6e980340602d15269678357b2703d618e"), looks := true }, kinds := [], alts := [], laidByText := true, laidKinds := [.data, .data, .data, .data, .sentinel, .sentinel, .pinned], laidTests := true, laidLooks := .later }
def PreludeListsCardSaid : Prop := Claim7.holds Tryz.pinned (.plain (OpenSpec.ofChange preludeListsSpec)) preludeListsCard

/-- THE SECOND FORM's CARD OF 'restitchlaw26.PreludeTrees'. -/
def preludeTreesUptoCard : Claim7 := { stood := { row := preludeTreesUptoRow, standIns := [], harness := (true, "64fc13c8facb05c8e0bf27cc8f3846c6e980340602d15269678357b2703d618e"), looks := true }, kinds := [], alts := [], laidByText := true, laidKinds := [.data, .data, .data, .data, .sentinel, .sentinel, .pinned], laidTests := true, laidLooks := .later }
def PreludeTreesUptoCardSaid : Prop := Claim7.holds Tryz.pinned (.plain (OpenSpec.upto preludeTreesSpec)) preludeTreesUptoCard

/-- THE SECOND FORM's CARD OF 'restitchlaw26.PreludeLaws'. -/
def preludeLawsUptoCard : Claim7 := { stood := { row := preludeLawsUptoRow, standIns := [], harness := (true, "64fc13c8facb05c8e0bf27cc8f3846c6e980340602d15269678357b2703d618e"), looks := true }, kinds := [], alts := [], laidByText := true, laidKinds := [.data, .data, .data, .data, .sentinel, .sentinel, .pinned], laidTests := true, laidLooks := .later }
def PreludeLawsUptoCardSaid : Prop := Claim7.holds Tryz.pinned (.plain (OpenSpec.upto preludeLawsSpec)) preludeLawsUptoCard

/-- THE SECOND FORM's CARD OF 'restitchlaw26.PreludeLists'. -/
def preludeListsUptoCard : Claim7 := { stood := { row := preludeListsUptoRow, standIns := [], harness := (true, "64fc13c8facb05c8e0bf27cc8f3846c6e980340602d15269678357b2703d618e"), looks := true }, kinds := [], alts := [], laidByText := true, laidKinds := [.data, .data, .data, .data, .sentinel, .sentinel, .pinned], laidTests := true, laidLooks := .later }
def PreludeListsUptoCardSaid : Prop := Claim7.holds Tryz.pinned (.plain (OpenSpec.upto preludeListsSpec)) preludeListsUptoCard
end Rows
end Go.Proofs.YtdkkaldimefljaaGreatDoor
