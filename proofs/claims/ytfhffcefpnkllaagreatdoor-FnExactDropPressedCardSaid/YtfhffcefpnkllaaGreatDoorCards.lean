/-
  DERIVED. GIVEN WITH THE SEED: THE CARDS: each row of YtfhffcefpnkllaaGreatDoorRows.lean that lists a variable, with what it lists TIED to the program's text (the seventh form; the later family's looks); each row that meets fmt, with fmt's text TOLD by the authors' own Lean function (tested against real Go, not proved from fmt's source: count such statements apart). THE CARD IS WHAT COUNTS. Prove the row's statement (the work); the ties are given (YtfhffcefpnkllaaGreatDoorTie.lean); close each card by the builder's one call (the guide's Derived/Test/ToyasCard.lean, 'card_holds'). Laid BY PROGRAM, IN A SANDBOX (cutbox-door.mjs). By AI agents, Wed Nov 11 2026. No macro, syntax, notation, axiom, sorry.
-/
import Derived.Test.YtfhffcefpnkllaaGreatDoorRows
import GoSem.ClaimSeven
namespace Go.Proofs.YtfhffcefpnkllaaGreatDoor
namespace Rows

/-- THE TIED CARD OF 'laws.FnExactStepsTo'. -/
def fnExactStepsToCard : Claim7 := { stood := { row := fnExactStepsToRow, standIns := [], harness := (true, "89e9aeddae24cd2275e11d4f31cafb8a5f0d0d61960544b8b9d0c6dec95f84d4"), looks := false }, kinds := [], alts := [], laidByText := true, laidKinds := [.data, .pinned], laidTests := true, laidLooks := .later }
def FnExactStepsToCardSaid : Prop := Claim7.holds Tryz.pinned (.plain (OpenSpec.ofChange fnExactStepsToSpec)) fnExactStepsToCard

/-- THE TIED CARD OF 'laws.FnExactOpenPressed'. -/
def fnExactOpenPressedCard : Claim7 := { stood := { row := fnExactOpenPressedRow, standIns := [], harness := (true, "89e9aeddae24cd2275e11d4f31cafb8a5f0d0d61960544b8b9d0c6dec95f84d4"), looks := false }, kinds := [], alts := [], laidByText := true, laidKinds := [.data, .pinned], laidTests := true, laidLooks := .later }
def FnExactOpenPressedCardSaid : Prop := Claim7.holds Tryz.pinned (.plain (OpenSpec.ofChange fnExactOpenPressedSpec)) fnExactOpenPressedCard

/-- THE TIED CARD OF 'laws.FnExactPressedText'. -/
def fnExactPressedTextCard : Claim7 := { stood := { row := fnExactPressedTextRow, standIns := [], harness := (true, "89e9aeddae24cd2275e11d4f31cafb8a5f0d0d61960544b8b9d0c6dec95f84d4"), looks := false }, kinds := [], alts := [], laidByText := true, laidKinds := [.data, .pinned], laidTests := true, laidLooks := .later }
def FnExactPressedTextCardSaid : Prop := Claim7.holds Tryz.pinned (.plain (OpenSpec.ofChange fnExactPressedTextSpec)) fnExactPressedTextCard

/-- THE TIED CARD OF 'laws.FnExactAddPressed'. -/
def fnExactAddPressedCard : Claim7 := { stood := { row := fnExactAddPressedRow, standIns := [], harness := (true, "89e9aeddae24cd2275e11d4f31cafb8a5f0d0d61960544b8b9d0c6dec95f84d4"), looks := false }, kinds := [], alts := [], laidByText := true, laidKinds := [.data, .pinned], laidTests := true, laidLooks := .later }
def FnExactAddPressedCardSaid : Prop := Claim7.holds Tryz.pinned (.plain (OpenSpec.ofChange fnExactAddPressedSpec)) fnExactAddPressedCard

/-- THE TIED CARD OF 'laws.FnExactDropPressed'. -/
def fnExactDropPressedCard : Claim7 := { stood := { row := fnExactDropPressedRow, standIns := [], harness := (true, "89e9aeddae24cd2275e11d4f31cafb8a5f0d0d61960544b8b9d0c6dec95f84d4"), looks := false }, kinds := [], alts := [], laidByText := true, laidKinds := [.data, .pinned], laidTests := true, laidLooks := .later }
def FnExactDropPressedCardSaid : Prop := Claim7.holds Tryz.pinned (.plain (OpenSpec.ofChange fnExactDropPressedSpec)) fnExactDropPressedCard

/-- THE SECOND FORM's CARD OF 'laws.FnExactStepsTo'. -/
def fnExactStepsToUptoCard : Claim7 := { stood := { row := fnExactStepsToUptoRow, standIns := [], harness := (true, "89e9aeddae24cd2275e11d4f31cafb8a5f0d0d61960544b8b9d0c6dec95f84d4"), looks := false }, kinds := [], alts := [], laidByText := true, laidKinds := [.data, .pinned], laidTests := true, laidLooks := .later }
def FnExactStepsToUptoCardSaid : Prop := Claim7.holds Tryz.pinned (.plain (OpenSpec.upto fnExactStepsToSpec)) fnExactStepsToUptoCard

/-- THE SECOND FORM's CARD OF 'laws.FnExactOpenPressed'. -/
def fnExactOpenPressedUptoCard : Claim7 := { stood := { row := fnExactOpenPressedUptoRow, standIns := [], harness := (true, "89e9aeddae24cd2275e11d4f31cafb8a5f0d0d61960544b8b9d0c6dec95f84d4"), looks := false }, kinds := [], alts := [], laidByText := true, laidKinds := [.data, .pinned], laidTests := true, laidLooks := .later }
def FnExactOpenPressedUptoCardSaid : Prop := Claim7.holds Tryz.pinned (.plain (OpenSpec.upto fnExactOpenPressedSpec)) fnExactOpenPressedUptoCard

/-- THE SECOND FORM's CARD OF 'laws.FnExactPressedText'. -/
def fnExactPressedTextUptoCard : Claim7 := { stood := { row := fnExactPressedTextUptoRow, standIns := [], harness := (true, "89e9aeddae24cd2275e11d4f31cafb8a5f0d0d61960544b8b9d0c6dec95f84d4"), looks := false }, kinds := [], alts := [], laidByText := true, laidKinds := [.data, .pinned], laidTests := true, laidLooks := .later }
def FnExactPressedTextUptoCardSaid : Prop := Claim7.holds Tryz.pinned (.plain (OpenSpec.upto fnExactPressedTextSpec)) fnExactPressedTextUptoCard

/-- THE SECOND FORM's CARD OF 'laws.FnExactAddPressed'. -/
def fnExactAddPressedUptoCard : Claim7 := { stood := { row := fnExactAddPressedUptoRow, standIns := [], harness := (true, "89e9aeddae24cd2275e11d4f31cafb8a5f0d0d61960544b8b9d0c6dec95f84d4"), looks := false }, kinds := [], alts := [], laidByText := true, laidKinds := [.data, .pinned], laidTests := true, laidLooks := .later }
def FnExactAddPressedUptoCardSaid : Prop := Claim7.holds Tryz.pinned (.plain (OpenSpec.upto fnExactAddPressedSpec)) fnExactAddPressedUptoCard

/-- THE SECOND FORM's CARD OF 'laws.FnExactDropPressed'. -/
def fnExactDropPressedUptoCard : Claim7 := { stood := { row := fnExactDropPressedUptoRow, standIns := [], harness := (true, "89e9aeddae24cd2275e11d4f31cafb8a5f0d0d61960544b8b9d0c6dec95f84d4"), looks := false }, kinds := [], alts := [], laidByText := true, laidKinds := [.data, .pinned], laidTests := true, laidLooks := .later }
def FnExactDropPressedUptoCardSaid : Prop := Claim7.holds Tryz.pinned (.plain (OpenSpec.upto fnExactDropPressedSpec)) fnExactDropPressedUptoCard
end Rows
end Go.Proofs.YtfhffcefpnkllaaGreatDoor
