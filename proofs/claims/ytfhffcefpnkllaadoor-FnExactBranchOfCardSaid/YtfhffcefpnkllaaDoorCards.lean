/-
  DERIVED. GIVEN WITH THE SEED: THE CARDS: each row of YtfhffcefpnkllaaDoorRows.lean that lists a variable, with what it lists TIED to the program's text (the seventh form; the later family's looks); each row that meets fmt, with fmt's text TOLD by the authors' own Lean function (tested against real Go, not proved from fmt's source: count such statements apart). THE CARD IS WHAT COUNTS. Prove the row's statement (the work); the ties are given (YtfhffcefpnkllaaDoorTie.lean); close each card by the builder's one call (the guide's Derived/Test/ToyasCard.lean, 'card_holds'). Laid BY PROGRAM, IN A SANDBOX (cutbox-door.mjs). By AI agents, Wed Nov 11 2026. No macro, syntax, notation, axiom, sorry.
-/
import Derived.Test.YtfhffcefpnkllaaDoorRows
import GoSem.ClaimSeven
namespace Go.Proofs.YtfhffcefpnkllaaDoor
namespace Rows

/-- THE TIED CARD OF 'laws.FnExactIsPressed'. -/
def fnExactIsPressedCard : Claim7 := { stood := { row := fnExactIsPressedRow, standIns := [], harness := (true, "97b29d604ec60663e25153da0d9bc01aba1077f8cce9963c8e9a0e4698d57707"), looks := false }, kinds := [], alts := [], laidByText := true, laidKinds := [.data, .pinned], laidTests := true, laidLooks := .later }
def FnExactIsPressedCardSaid : Prop := Claim7.holds Tryd.pinned (.plain (OpenSpec.ofChange fnExactIsPressedSpec)) fnExactIsPressedCard

/-- THE TIED CARD OF 'laws.FnExactBranchPrefix'. -/
def fnExactBranchPrefixCard : Claim7 := { stood := { row := fnExactBranchPrefixRow, standIns := [], harness := (true, "97b29d604ec60663e25153da0d9bc01aba1077f8cce9963c8e9a0e4698d57707"), looks := false }, kinds := [], alts := [], laidByText := true, laidKinds := [.data, .pinned], laidTests := true, laidLooks := .later }
def FnExactBranchPrefixCardSaid : Prop := Claim7.holds Tryd.pinned (.plain (OpenSpec.ofChange fnExactBranchPrefixSpec)) fnExactBranchPrefixCard

/-- THE TIED CARD OF 'laws.FnExactCountLetters'. -/
def fnExactCountLettersCard : Claim7 := { stood := { row := fnExactCountLettersRow, standIns := [], harness := (true, "97b29d604ec60663e25153da0d9bc01aba1077f8cce9963c8e9a0e4698d57707"), looks := false }, kinds := [], alts := [], laidByText := true, laidKinds := [.data, .pinned], laidTests := true, laidLooks := .later }
def FnExactCountLettersCardSaid : Prop := Claim7.holds Tryd.pinned (.plain (OpenSpec.ofChange fnExactCountLettersSpec)) fnExactCountLettersCard

/-- THE TIED CARD OF 'laws.FnExactLongestBranch'. -/
def fnExactLongestBranchCard : Claim7 := { stood := { row := fnExactLongestBranchRow, standIns := [], harness := (true, "97b29d604ec60663e25153da0d9bc01aba1077f8cce9963c8e9a0e4698d57707"), looks := false }, kinds := [], alts := [], laidByText := true, laidKinds := [.data, .pinned], laidTests := true, laidLooks := .later }
def FnExactLongestBranchCardSaid : Prop := Claim7.holds Tryd.pinned (.plain (OpenSpec.ofChange fnExactLongestBranchSpec)) fnExactLongestBranchCard

/-- THE TIED CARD OF 'laws.FnExactBranchOf'. -/
def fnExactBranchOfCard : Claim7 := { stood := { row := fnExactBranchOfRow, standIns := [], harness := (true, "97b29d604ec60663e25153da0d9bc01aba1077f8cce9963c8e9a0e4698d57707"), looks := false }, kinds := [], alts := [], laidByText := true, laidKinds := [.data, .pinned], laidTests := true, laidLooks := .later }
def FnExactBranchOfCardSaid : Prop := Claim7.holds Tryd.pinned (.plain (OpenSpec.ofChange fnExactBranchOfSpec)) fnExactBranchOfCard

/-- THE SECOND FORM's CARD OF 'laws.FnExactIsPressed'. -/
def fnExactIsPressedUptoCard : Claim7 := { stood := { row := fnExactIsPressedUptoRow, standIns := [], harness := (true, "97b29d604ec60663e25153da0d9bc01aba1077f8cce9963c8e9a0e4698d57707"), looks := false }, kinds := [], alts := [], laidByText := true, laidKinds := [.data, .pinned], laidTests := true, laidLooks := .later }
def FnExactIsPressedUptoCardSaid : Prop := Claim7.holds Tryd.pinned (.plain (OpenSpec.upto fnExactIsPressedSpec)) fnExactIsPressedUptoCard

/-- THE SECOND FORM's CARD OF 'laws.FnExactBranchPrefix'. -/
def fnExactBranchPrefixUptoCard : Claim7 := { stood := { row := fnExactBranchPrefixUptoRow, standIns := [], harness := (true, "97b29d604ec60663e25153da0d9bc01aba1077f8cce9963c8e9a0e4698d57707"), looks := false }, kinds := [], alts := [], laidByText := true, laidKinds := [.data, .pinned], laidTests := true, laidLooks := .later }
def FnExactBranchPrefixUptoCardSaid : Prop := Claim7.holds Tryd.pinned (.plain (OpenSpec.upto fnExactBranchPrefixSpec)) fnExactBranchPrefixUptoCard

/-- THE SECOND FORM's CARD OF 'laws.FnExactCountLetters'. -/
def fnExactCountLettersUptoCard : Claim7 := { stood := { row := fnExactCountLettersUptoRow, standIns := [], harness := (true, "97b29d604ec60663e25153da0d9bc01aba1077f8cce9963c8e9a0e4698d57707"), looks := false }, kinds := [], alts := [], laidByText := true, laidKinds := [.data, .pinned], laidTests := true, laidLooks := .later }
def FnExactCountLettersUptoCardSaid : Prop := Claim7.holds Tryd.pinned (.plain (OpenSpec.upto fnExactCountLettersSpec)) fnExactCountLettersUptoCard

/-- THE SECOND FORM's CARD OF 'laws.FnExactLongestBranch'. -/
def fnExactLongestBranchUptoCard : Claim7 := { stood := { row := fnExactLongestBranchUptoRow, standIns := [], harness := (true, "97b29d604ec60663e25153da0d9bc01aba1077f8cce9963c8e9a0e4698d57707"), looks := false }, kinds := [], alts := [], laidByText := true, laidKinds := [.data, .pinned], laidTests := true, laidLooks := .later }
def FnExactLongestBranchUptoCardSaid : Prop := Claim7.holds Tryd.pinned (.plain (OpenSpec.upto fnExactLongestBranchSpec)) fnExactLongestBranchUptoCard

/-- THE SECOND FORM's CARD OF 'laws.FnExactBranchOf'. -/
def fnExactBranchOfUptoCard : Claim7 := { stood := { row := fnExactBranchOfUptoRow, standIns := [], harness := (true, "97b29d604ec60663e25153da0d9bc01aba1077f8cce9963c8e9a0e4698d57707"), looks := false }, kinds := [], alts := [], laidByText := true, laidKinds := [.data, .pinned], laidTests := true, laidLooks := .later }
def FnExactBranchOfUptoCardSaid : Prop := Claim7.holds Tryd.pinned (.plain (OpenSpec.upto fnExactBranchOfSpec)) fnExactBranchOfUptoCard
end Rows
end Go.Proofs.YtfhffcefpnkllaaDoor
