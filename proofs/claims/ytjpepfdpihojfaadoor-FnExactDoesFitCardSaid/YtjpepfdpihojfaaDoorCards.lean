/-
  DERIVED. GIVEN WITH THE SEED: THE CARDS: each row of YtjpepfdpihojfaaDoorRows.lean that lists a variable, with what it lists TIED to the program's text (the seventh form; the later family's looks); each row that meets fmt, with fmt's text TOLD by the authors' own Lean function (tested against real Go, not proved from fmt's source: count such statements apart). THE CARD IS WHAT COUNTS. Prove the row's statement (the work); the ties are given (YtjpepfdpihojfaaDoorTie.lean); close each card by the builder's one call (the guide's Derived/Test/ToyasCard.lean, 'card_holds'). Laid BY PROGRAM, IN A SANDBOX (cutbox-door.mjs). By AI agents, Wed Nov 11 2026. No macro, syntax, notation, axiom, sorry.
-/
import Derived.Test.YtjpepfdpihojfaaDoorRows
import GoSem.ClaimSeven
namespace Go.Proofs.YtjpepfdpihojfaaDoor
namespace Rows

/-- THE TIED CARD OF 'laws.FnExactPlainPattern'. -/
def fnExactPlainPatternCard : Claim7 := { stood := { row := fnExactPlainPatternRow, standIns := [], harness := (true, "497999dd9593592e935f961e182575549c7f0a2124567c0f76f3c62c40878dc6"), looks := true }, kinds := [], alts := [], laidByText := true, laidKinds := [.data, .pinned], laidTests := true, laidLooks := .later }
def FnExactPlainPatternCardSaid : Prop := Claim7.holds Tryd.pinned (.plain (OpenSpec.ofChange fnExactPlainPatternSpec)) fnExactPlainPatternCard

/-- THE TIED CARD OF 'laws.FnExactDoesFit'. -/
def fnExactDoesFitCard : Claim7 := { stood := { row := fnExactDoesFitRow, standIns := [], harness := (true, "497999dd9593592e935f961e182575549c7f0a2124567c0f76f3c62c40878dc6"), looks := true }, kinds := [], alts := [], laidByText := true, laidKinds := [.data, .pinned], laidTests := true, laidLooks := .later }
def FnExactDoesFitCardSaid : Prop := Claim7.holds Tryd.pinned (.plain (OpenSpec.ofChange fnExactDoesFitSpec)) fnExactDoesFitCard

/-- THE SECOND FORM's CARD OF 'laws.FnExactPlainPattern'. -/
def fnExactPlainPatternUptoCard : Claim7 := { stood := { row := fnExactPlainPatternUptoRow, standIns := [], harness := (true, "497999dd9593592e935f961e182575549c7f0a2124567c0f76f3c62c40878dc6"), looks := true }, kinds := [], alts := [], laidByText := true, laidKinds := [.data, .pinned], laidTests := true, laidLooks := .later }
def FnExactPlainPatternUptoCardSaid : Prop := Claim7.holds Tryd.pinned (.plain (OpenSpec.upto fnExactPlainPatternSpec)) fnExactPlainPatternUptoCard

/-- THE SECOND FORM's CARD OF 'laws.FnExactDoesFit'. -/
def fnExactDoesFitUptoCard : Claim7 := { stood := { row := fnExactDoesFitUptoRow, standIns := [], harness := (true, "497999dd9593592e935f961e182575549c7f0a2124567c0f76f3c62c40878dc6"), looks := true }, kinds := [], alts := [], laidByText := true, laidKinds := [.data, .pinned], laidTests := true, laidLooks := .later }
def FnExactDoesFitUptoCardSaid : Prop := Claim7.holds Tryd.pinned (.plain (OpenSpec.upto fnExactDoesFitSpec)) fnExactDoesFitUptoCard
end Rows
end Go.Proofs.YtjpepfdpihojfaaDoor
