/-
  DERIVED. GIVEN WITH THE SEED: THE CARDS: each row of YtnnkedeohfbkeaaGreatDoorRows.lean that lists a variable, with what it lists TIED to the program's text (the seventh form; the later family's looks); each row that meets fmt, with fmt's text TOLD by the authors' own Lean function (tested against real Go, not proved from fmt's source: count such statements apart). THE CARD IS WHAT COUNTS. Prove the row's statement (the work); the ties are given (YtnnkedeohfbkeaaGreatDoorTie.lean); close each card by the builder's one call (the guide's Derived/Test/ToyasCard.lean, 'card_holds'). Laid BY PROGRAM, IN A SANDBOX (cutbox-door.mjs). By AI agents, Wed Nov 11 2026. No macro, syntax, notation, axiom, sorry.
-/
import Derived.Test.YtnnkedeohfbkeaaGreatDoorRows
import GoSem.ClaimSeven
namespace Go.Proofs.YtnnkedeohfbkeaaGreatDoor
namespace Rows

/-- THE TIED CARD OF 'laws.FnExactTrieOfMachine'. -/
def fnExactTrieOfMachineCard : Claim7 := { stood := { row := fnExactTrieOfMachineRow, standIns := [], harness := (true, "d24746f385e5a6b2389916c9b9ccdfc43770af261716950c3f87901a77ac8579"), looks := false }, kinds := [], alts := [], laidByText := true, laidKinds := [.data, .pinned], laidTests := true, laidLooks := .later }
def FnExactTrieOfMachineCardSaid : Prop := Claim7.holds Tryz.pinned (.plain (OpenSpec.ofChange fnExactTrieOfMachineSpec)) fnExactTrieOfMachineCard

/-- THE TIED CARD OF 'laws.FnExactIsMachine'. -/
def fnExactIsMachineCard : Claim7 := { stood := { row := fnExactIsMachineRow, standIns := [], harness := (true, "d24746f385e5a6b2389916c9b9ccdfc43770af261716950c3f87901a77ac8579"), looks := false }, kinds := [], alts := [], laidByText := true, laidKinds := [.data, .pinned], laidTests := true, laidLooks := .later }
def FnExactIsMachineCardSaid : Prop := Claim7.holds Tryz.pinned (.plain (OpenSpec.ofChange fnExactIsMachineSpec)) fnExactIsMachineCard

/-- THE TIED CARD OF 'laws.FnExactCountEdges'. -/
def fnExactCountEdgesCard : Claim7 := { stood := { row := fnExactCountEdgesRow, standIns := [], harness := (true, "d24746f385e5a6b2389916c9b9ccdfc43770af261716950c3f87901a77ac8579"), looks := false }, kinds := [], alts := [], laidByText := true, laidKinds := [.data, .pinned], laidTests := true, laidLooks := .later }
def FnExactCountEdgesCardSaid : Prop := Claim7.holds Tryz.pinned (.plain (OpenSpec.ofChange fnExactCountEdgesSpec)) fnExactCountEdgesCard

/-- THE TIED CARD OF 'laws.FnExactDoesTake'. -/
def fnExactDoesTakeCard : Claim7 := { stood := { row := fnExactDoesTakeRow, standIns := [], harness := (true, "d24746f385e5a6b2389916c9b9ccdfc43770af261716950c3f87901a77ac8579"), looks := false }, kinds := [], alts := [], laidByText := true, laidKinds := [.data, .pinned], laidTests := true, laidLooks := .later }
def FnExactDoesTakeCardSaid : Prop := Claim7.holds Tryz.pinned (.plain (OpenSpec.ofChange fnExactDoesTakeSpec)) fnExactDoesTakeCard

/-- THE TIED CARD OF 'laws.FnExactWordNumbered'. -/
def fnExactWordNumberedCard : Claim7 := { stood := { row := fnExactWordNumberedRow, standIns := [], harness := (true, "d24746f385e5a6b2389916c9b9ccdfc43770af261716950c3f87901a77ac8579"), looks := false }, kinds := [], alts := [], laidByText := true, laidKinds := [.data, .pinned], laidTests := true, laidLooks := .later }
def FnExactWordNumberedCardSaid : Prop := Claim7.holds Tryz.pinned (.plain (OpenSpec.ofChange fnExactWordNumberedSpec)) fnExactWordNumberedCard

/-- THE TIED CARD OF 'laws.FnExactLevelOf'. -/
def fnExactLevelOfCard : Claim7 := { stood := { row := fnExactLevelOfRow, standIns := [], harness := (true, "d24746f385e5a6b2389916c9b9ccdfc43770af261716950c3f87901a77ac8579"), looks := false }, kinds := [], alts := [], laidByText := true, laidKinds := [.data, .pinned], laidTests := true, laidLooks := .later }
def FnExactLevelOfCardSaid : Prop := Claim7.holds Tryz.pinned (.plain (OpenSpec.ofChange fnExactLevelOfSpec)) fnExactLevelOfCard

/-- THE TIED CARD OF 'laws.FnExactNumberOf'. -/
def fnExactNumberOfCard : Claim7 := { stood := { row := fnExactNumberOfRow, standIns := [], harness := (true, "d24746f385e5a6b2389916c9b9ccdfc43770af261716950c3f87901a77ac8579"), looks := false }, kinds := [], alts := [], laidByText := true, laidKinds := [.data, .pinned], laidTests := true, laidLooks := .later }
def FnExactNumberOfCardSaid : Prop := Claim7.holds Tryz.pinned (.plain (OpenSpec.ofChange fnExactNumberOfSpec)) fnExactNumberOfCard

/-- THE TIED CARD OF 'laws.FnExactStateOf'. -/
def fnExactStateOfCard : Claim7 := { stood := { row := fnExactStateOfRow, standIns := [], harness := (true, "d24746f385e5a6b2389916c9b9ccdfc43770af261716950c3f87901a77ac8579"), looks := false }, kinds := [], alts := [], laidByText := true, laidKinds := [.data, .pinned], laidTests := true, laidLooks := .later }
def FnExactStateOfCardSaid : Prop := Claim7.holds Tryz.pinned (.plain (OpenSpec.ofChange fnExactStateOfSpec)) fnExactStateOfCard

/-- THE TIED CARD OF 'laws.FnExactBehindState'. -/
def fnExactBehindStateCard : Claim7 := { stood := { row := fnExactBehindStateRow, standIns := [], harness := (true, "d24746f385e5a6b2389916c9b9ccdfc43770af261716950c3f87901a77ac8579"), looks := false }, kinds := [], alts := [], laidByText := true, laidKinds := [.data, .pinned], laidTests := true, laidLooks := .later }
def FnExactBehindStateCardSaid : Prop := Claim7.holds Tryz.pinned (.plain (OpenSpec.ofChange fnExactBehindStateSpec)) fnExactBehindStateCard

/-- THE TIED CARD OF 'laws.FnExactJoiningStates'. -/
def fnExactJoiningStatesCard : Claim7 := { stood := { row := fnExactJoiningStatesRow, standIns := [], harness := (true, "d24746f385e5a6b2389916c9b9ccdfc43770af261716950c3f87901a77ac8579"), looks := false }, kinds := [], alts := [], laidByText := true, laidKinds := [.data, .pinned], laidTests := true, laidLooks := .later }
def FnExactJoiningStatesCardSaid : Prop := Claim7.holds Tryz.pinned (.plain (OpenSpec.ofChange fnExactJoiningStatesSpec)) fnExactJoiningStatesCard

/-- THE SECOND FORM's CARD OF 'laws.FnExactTrieOfMachine'. -/
def fnExactTrieOfMachineUptoCard : Claim7 := { stood := { row := fnExactTrieOfMachineUptoRow, standIns := [], harness := (true, "d24746f385e5a6b2389916c9b9ccdfc43770af261716950c3f87901a77ac8579"), looks := false }, kinds := [], alts := [], laidByText := true, laidKinds := [.data, .pinned], laidTests := true, laidLooks := .later }
def FnExactTrieOfMachineUptoCardSaid : Prop := Claim7.holds Tryz.pinned (.plain (OpenSpec.upto fnExactTrieOfMachineSpec)) fnExactTrieOfMachineUptoCard

/-- THE SECOND FORM's CARD OF 'laws.FnExactIsMachine'. -/
def fnExactIsMachineUptoCard : Claim7 := { stood := { row := fnExactIsMachineUptoRow, standIns := [], harness := (true, "d24746f385e5a6b2389916c9b9ccdfc43770af261716950c3f87901a77ac8579"), looks := false }, kinds := [], alts := [], laidByText := true, laidKinds := [.data, .pinned], laidTests := true, laidLooks := .later }
def FnExactIsMachineUptoCardSaid : Prop := Claim7.holds Tryz.pinned (.plain (OpenSpec.upto fnExactIsMachineSpec)) fnExactIsMachineUptoCard

/-- THE SECOND FORM's CARD OF 'laws.FnExactCountEdges'. -/
def fnExactCountEdgesUptoCard : Claim7 := { stood := { row := fnExactCountEdgesUptoRow, standIns := [], harness := (true, "d24746f385e5a6b2389916c9b9ccdfc43770af261716950c3f87901a77ac8579"), looks := false }, kinds := [], alts := [], laidByText := true, laidKinds := [.data, .pinned], laidTests := true, laidLooks := .later }
def FnExactCountEdgesUptoCardSaid : Prop := Claim7.holds Tryz.pinned (.plain (OpenSpec.upto fnExactCountEdgesSpec)) fnExactCountEdgesUptoCard

/-- THE SECOND FORM's CARD OF 'laws.FnExactDoesTake'. -/
def fnExactDoesTakeUptoCard : Claim7 := { stood := { row := fnExactDoesTakeUptoRow, standIns := [], harness := (true, "d24746f385e5a6b2389916c9b9ccdfc43770af261716950c3f87901a77ac8579"), looks := false }, kinds := [], alts := [], laidByText := true, laidKinds := [.data, .pinned], laidTests := true, laidLooks := .later }
def FnExactDoesTakeUptoCardSaid : Prop := Claim7.holds Tryz.pinned (.plain (OpenSpec.upto fnExactDoesTakeSpec)) fnExactDoesTakeUptoCard

/-- THE SECOND FORM's CARD OF 'laws.FnExactWordNumbered'. -/
def fnExactWordNumberedUptoCard : Claim7 := { stood := { row := fnExactWordNumberedUptoRow, standIns := [], harness := (true, "d24746f385e5a6b2389916c9b9ccdfc43770af261716950c3f87901a77ac8579"), looks := false }, kinds := [], alts := [], laidByText := true, laidKinds := [.data, .pinned], laidTests := true, laidLooks := .later }
def FnExactWordNumberedUptoCardSaid : Prop := Claim7.holds Tryz.pinned (.plain (OpenSpec.upto fnExactWordNumberedSpec)) fnExactWordNumberedUptoCard

/-- THE SECOND FORM's CARD OF 'laws.FnExactLevelOf'. -/
def fnExactLevelOfUptoCard : Claim7 := { stood := { row := fnExactLevelOfUptoRow, standIns := [], harness := (true, "d24746f385e5a6b2389916c9b9ccdfc43770af261716950c3f87901a77ac8579"), looks := false }, kinds := [], alts := [], laidByText := true, laidKinds := [.data, .pinned], laidTests := true, laidLooks := .later }
def FnExactLevelOfUptoCardSaid : Prop := Claim7.holds Tryz.pinned (.plain (OpenSpec.upto fnExactLevelOfSpec)) fnExactLevelOfUptoCard

/-- THE SECOND FORM's CARD OF 'laws.FnExactNumberOf'. -/
def fnExactNumberOfUptoCard : Claim7 := { stood := { row := fnExactNumberOfUptoRow, standIns := [], harness := (true, "d24746f385e5a6b2389916c9b9ccdfc43770af261716950c3f87901a77ac8579"), looks := false }, kinds := [], alts := [], laidByText := true, laidKinds := [.data, .pinned], laidTests := true, laidLooks := .later }
def FnExactNumberOfUptoCardSaid : Prop := Claim7.holds Tryz.pinned (.plain (OpenSpec.upto fnExactNumberOfSpec)) fnExactNumberOfUptoCard

/-- THE SECOND FORM's CARD OF 'laws.FnExactStateOf'. -/
def fnExactStateOfUptoCard : Claim7 := { stood := { row := fnExactStateOfUptoRow, standIns := [], harness := (true, "d24746f385e5a6b2389916c9b9ccdfc43770af261716950c3f87901a77ac8579"), looks := false }, kinds := [], alts := [], laidByText := true, laidKinds := [.data, .pinned], laidTests := true, laidLooks := .later }
def FnExactStateOfUptoCardSaid : Prop := Claim7.holds Tryz.pinned (.plain (OpenSpec.upto fnExactStateOfSpec)) fnExactStateOfUptoCard

/-- THE SECOND FORM's CARD OF 'laws.FnExactBehindState'. -/
def fnExactBehindStateUptoCard : Claim7 := { stood := { row := fnExactBehindStateUptoRow, standIns := [], harness := (true, "d24746f385e5a6b2389916c9b9ccdfc43770af261716950c3f87901a77ac8579"), looks := false }, kinds := [], alts := [], laidByText := true, laidKinds := [.data, .pinned], laidTests := true, laidLooks := .later }
def FnExactBehindStateUptoCardSaid : Prop := Claim7.holds Tryz.pinned (.plain (OpenSpec.upto fnExactBehindStateSpec)) fnExactBehindStateUptoCard

/-- THE SECOND FORM's CARD OF 'laws.FnExactJoiningStates'. -/
def fnExactJoiningStatesUptoCard : Claim7 := { stood := { row := fnExactJoiningStatesUptoRow, standIns := [], harness := (true, "d24746f385e5a6b2389916c9b9ccdfc43770af261716950c3f87901a77ac8579"), looks := false }, kinds := [], alts := [], laidByText := true, laidKinds := [.data, .pinned], laidTests := true, laidLooks := .later }
def FnExactJoiningStatesUptoCardSaid : Prop := Claim7.holds Tryz.pinned (.plain (OpenSpec.upto fnExactJoiningStatesSpec)) fnExactJoiningStatesUptoCard
end Rows
end Go.Proofs.YtnnkedeohfbkeaaGreatDoor
