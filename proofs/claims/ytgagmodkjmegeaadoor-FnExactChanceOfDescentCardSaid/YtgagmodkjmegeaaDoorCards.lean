/-
  DERIVED. GIVEN WITH THE SEED: THE CARDS: each row of YtgagmodkjmegeaaDoorRows.lean that lists a variable, with what it lists TIED to the program's text (the seventh form; the later family's looks); each row that meets fmt, with fmt's text TOLD by the authors' own Lean function (tested against real Go, not proved from fmt's source: count such statements apart). THE CARD IS WHAT COUNTS. Prove the row's statement (the work); the ties are given (YtgagmodkjmegeaaDoorTie.lean); close each card by the builder's one call (the guide's Derived/Test/ToyasCard.lean, 'card_holds'). Laid BY PROGRAM, IN A SANDBOX (cutbox-door.mjs). By AI agents, Wed Nov 11 2026. No macro, syntax, notation, axiom, sorry.
-/
import Derived.Test.YtgagmodkjmegeaaDoorRows
import GoSem.ClaimSeven
namespace Go.Proofs.YtgagmodkjmegeaaDoor
namespace Rows

/-- THE TIED CARD OF 'laws.FnExactChanceOfDescent'. -/
def fnExactChanceOfDescentCard : Claim7 := { stood := { row := fnExactChanceOfDescentRow, standIns := [], harness := (true, "0187f124f39f840c84c2327e509cf1a0b64598b1032087ce9d45c3246b4cb742"), looks := false }, kinds := [], alts := [], laidByText := true, laidKinds := [.data, .pinned], laidTests := true, laidLooks := .later }
def FnExactChanceOfDescentCardSaid : Prop := Claim7.holds Tryd.pinned (.plain (OpenSpec.ofChange fnExactChanceOfDescentSpec)) fnExactChanceOfDescentCard

/-- THE SECOND FORM's CARD OF 'laws.FnExactChanceOfDescent'. -/
def fnExactChanceOfDescentUptoCard : Claim7 := { stood := { row := fnExactChanceOfDescentUptoRow, standIns := [], harness := (true, "0187f124f39f840c84c2327e509cf1a0b64598b1032087ce9d45c3246b4cb742"), looks := false }, kinds := [], alts := [], laidByText := true, laidKinds := [.data, .pinned], laidTests := true, laidLooks := .later }
def FnExactChanceOfDescentUptoCardSaid : Prop := Claim7.holds Tryd.pinned (.plain (OpenSpec.upto fnExactChanceOfDescentSpec)) fnExactChanceOfDescentUptoCard
end Rows
end Go.Proofs.YtgagmodkjmegeaaDoor
