/-
  DERIVED. GIVEN WITH THE SEED: THE CARDS: each row of YtkmnkiekmlcfdaaGreatDoorRows.lean that lists a variable, with what it lists TIED to the program's text (the seventh form; the later family's looks); each row that meets fmt, with fmt's text TOLD by the authors' own Lean function (tested against real Go, not proved from fmt's source: count such statements apart). THE CARD IS WHAT COUNTS. Prove the row's statement (the work); the ties are given (YtkmnkiekmlcfdaaGreatDoorTie.lean); close each card by the builder's one call (the guide's Derived/Test/ToyasCard.lean, 'card_holds'). Laid BY PROGRAM, IN A SANDBOX (cutbox-door.mjs). By AI agents, Wed Nov 11 2026. No macro, syntax, notation, axiom, sorry.
-/
import Derived.Test.YtkmnkiekmlcfdaaGreatDoorRows
import GoSem.ClaimSeven
namespace Go.Proofs.YtkmnkiekmlcfdaaGreatDoor
namespace Rows

/-- THE TIED CARD OF 'restitchlaw05.MatchCovers'. -/
def matchCoversCard : Claim7 := { stood := { row := matchCoversRow, standIns := [], harness := (true, "bd3adf9231cb2096f97970702c08f3c2fa9679cd482f9882da6536361b9b76c7"), looks := true }, kinds := [], alts := [], laidByText := true, laidKinds := [.data, .data, .data, .data, .sentinel, .sentinel, .pinned], laidTests := true, laidLooks := .later }
def MatchCoversCardSaid : Prop := Claim7.holds Tryz.pinned (.plain (OpenSpec.ofChange matchCoversSpec)) matchCoversCard

/-- THE TIED CARD OF 'restitchlaw05.MatchOrder'. -/
def matchOrderCard : Claim7 := { stood := { row := matchOrderRow, standIns := [], harness := (true, "bd3adf9231cb2096f97970702c08f3c2fa9679cd482f9882da6536361b9b76c7"), looks := true }, kinds := [], alts := [], laidByText := true, laidKinds := [.data, .data, .data, .data, .sentinel, .sentinel, .pinned], laidTests := true, laidLooks := .later }
def MatchOrderCardSaid : Prop := Claim7.holds Tryz.pinned (.plain (OpenSpec.ofChange matchOrderSpec)) matchOrderCard

/-- THE TIED CARD OF 'restitchlaw05.MatchSelects'. -/
def matchSelectsCard : Claim7 := { stood := { row := matchSelectsRow, standIns := [], harness := (true, "bd3adf9231cb2096f97970702c08f3c2fa9679cd482f9882da6536361b9b76c7"), looks := true }, kinds := [], alts := [], laidByText := true, laidKinds := [.data, .data, .data, .data, .sentinel, .sentinel, .pinned], laidTests := true, laidLooks := .later }
def MatchSelectsCardSaid : Prop := Claim7.holds Tryz.pinned (.plain (OpenSpec.ofChange matchSelectsSpec)) matchSelectsCard

/-- THE TIED CARD OF 'restitchlaw05.MatchChecks'. -/
def matchChecksCard : Claim7 := { stood := { row := matchChecksRow, standIns := [], harness := (true, "bd3adf9231cb2096f97970702c08f3c2fa9679cd482f9882da6536361b9b76c7"), looks := true }, kinds := [], alts := [], laidByText := true, laidKinds := [.data, .data, .data, .data, .sentinel, .sentinel, .pinned], laidTests := true, laidLooks := .later }
def MatchChecksCardSaid : Prop := Claim7.holds Tryz.pinned (.plain (OpenSpec.ofChange matchChecksSpec)) matchChecksCard

/-- THE TIED CARD OF 'restitchlaw05.MatchPatterns'. -/
def matchPatternsCard : Claim7 := { stood := { row := matchPatternsRow, standIns := [], harness := (true, "bd3adf9231cb2096f97970702c08f3c2fa9679cd482f9882da6536361b9b76c7"), looks := true }, kinds := [], alts := [], laidByText := true, laidKinds := [.data, .data, .data, .data, .sentinel, .sentinel, .pinned], laidTests := true, laidLooks := .later }
def MatchPatternsCardSaid : Prop := Claim7.holds Tryz.pinned (.plain (OpenSpec.ofChange matchPatternsSpec)) matchPatternsCard

/-- THE TIED CARD OF 'restitchlaw05.MatchTrees'. -/
def matchTreesCard : Claim7 := { stood := { row := matchTreesRow, standIns := [], harness := (true, "bd3adf9231cb2096f97970702c08f3c2fa9679cd482f9882da6536361b9b76c7"), looks := true }, kinds := [], alts := [], laidByText := true, laidKinds := [.data, .data, .data, .data, .sentinel, .sentinel, .pinned], laidTests := true, laidLooks := .later }
def MatchTreesCardSaid : Prop := Claim7.holds Tryz.pinned (.plain (OpenSpec.ofChange matchTreesSpec)) matchTreesCard

/-- THE SECOND FORM's CARD OF 'restitchlaw05.MatchCovers'. -/
def matchCoversUptoCard : Claim7 := { stood := { row := matchCoversUptoRow, standIns := [], harness := (true, "bd3adf9231cb2096f97970702c08f3c2fa9679cd482f9882da6536361b9b76c7"), looks := true }, kinds := [], alts := [], laidByText := true, laidKinds := [.data, .data, .data, .data, .sentinel, .sentinel, .pinned], laidTests := true, laidLooks := .later }
def MatchCoversUptoCardSaid : Prop := Claim7.holds Tryz.pinned (.plain (OpenSpec.upto matchCoversSpec)) matchCoversUptoCard

/-- THE SECOND FORM's CARD OF 'restitchlaw05.MatchOrder'. -/
def matchOrderUptoCard : Claim7 := { stood := { row := matchOrderUptoRow, standIns := [], harness := (true, "bd3adf9231cb2096f97970702c08f3c2fa9679cd482f9882da6536361b9b76c7"), looks := true }, kinds := [], alts := [], laidByText := true, laidKinds := [.data, .data, .data, .data, .sentinel, .sentinel, .pinned], laidTests := true, laidLooks := .later }
def MatchOrderUptoCardSaid : Prop := Claim7.holds Tryz.pinned (.plain (OpenSpec.upto matchOrderSpec)) matchOrderUptoCard

/-- THE SECOND FORM's CARD OF 'restitchlaw05.MatchSelects'. -/
def matchSelectsUptoCard : Claim7 := { stood := { row := matchSelectsUptoRow, standIns := [], harness := (true, "bd3adf9231cb2096f97970702c08f3c2fa9679cd482f9882da6536361b9b76c7"), looks := true }, kinds := [], alts := [], laidByText := true, laidKinds := [.data, .data, .data, .data, .sentinel, .sentinel, .pinned], laidTests := true, laidLooks := .later }
def MatchSelectsUptoCardSaid : Prop := Claim7.holds Tryz.pinned (.plain (OpenSpec.upto matchSelectsSpec)) matchSelectsUptoCard

/-- THE SECOND FORM's CARD OF 'restitchlaw05.MatchChecks'. -/
def matchChecksUptoCard : Claim7 := { stood := { row := matchChecksUptoRow, standIns := [], harness := (true, "bd3adf9231cb2096f97970702c08f3c2fa9679cd482f9882da6536361b9b76c7"), looks := true }, kinds := [], alts := [], laidByText := true, laidKinds := [.data, .data, .data, .data, .sentinel, .sentinel, .pinned], laidTests := true, laidLooks := .later }
def MatchChecksUptoCardSaid : Prop := Claim7.holds Tryz.pinned (.plain (OpenSpec.upto matchChecksSpec)) matchChecksUptoCard

/-- THE SECOND FORM's CARD OF 'restitchlaw05.MatchPatterns'. -/
def matchPatternsUptoCard : Claim7 := { stood := { row := matchPatternsUptoRow, standIns := [], harness := (true, "bd3adf9231cb2096f97970702c08f3c2fa9679cd482f9882da6536361b9b76c7"), looks := true }, kinds := [], alts := [], laidByText := true, laidKinds := [.data, .data, .data, .data, .sentinel, .sentinel, .pinned], laidTests := true, laidLooks := .later }
def MatchPatternsUptoCardSaid : Prop := Claim7.holds Tryz.pinned (.plain (OpenSpec.upto matchPatternsSpec)) matchPatternsUptoCard

/-- THE SECOND FORM's CARD OF 'restitchlaw05.MatchTrees'. -/
def matchTreesUptoCard : Claim7 := { stood := { row := matchTreesUptoRow, standIns := [], harness := (true, "bd3adf9231cb2096f97970702c08f3c2fa9679cd482f9882da6536361b9b76c7"), looks := true }, kinds := [], alts := [], laidByText := true, laidKinds := [.data, .data, .data, .data, .sentinel, .sentinel, .pinned], laidTests := true, laidLooks := .later }
def MatchTreesUptoCardSaid : Prop := Claim7.holds Tryz.pinned (.plain (OpenSpec.upto matchTreesSpec)) matchTreesUptoCard
end Rows
end Go.Proofs.YtkmnkiekmlcfdaaGreatDoor
