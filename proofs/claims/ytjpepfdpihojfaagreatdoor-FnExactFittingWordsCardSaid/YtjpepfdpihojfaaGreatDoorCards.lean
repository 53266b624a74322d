/-
  DERIVED. GIVEN WITH THE SEED: THE CARDS: each row of YtjpepfdpihojfaaGreatDoorRows.lean that lists a variable, with what it lists TIED to the program's text (the seventh form; the later family's looks); each row that meets fmt, with fmt's text TOLD by the authors' own Lean function (tested against real Go, not proved from fmt's source: count such statements apart). THE CARD IS WHAT COUNTS. Prove the row's statement (the work); the ties are given (YtjpepfdpihojfaaGreatDoorTie.lean); close each card by the builder's one call (the guide's Derived/Test/ToyasCard.lean, 'card_holds'). Laid BY PROGRAM, IN A SANDBOX (cutbox-door.mjs). By AI agents, Wed Nov 11 2026. No macro, syntax, notation, axiom, sorry.
-/
import Derived.Test.YtjpepfdpihojfaaGreatDoorRows
import GoSem.ClaimSeven
namespace Go.Proofs.YtjpepfdpihojfaaGreatDoor
namespace Rows

/-- THE TIED CARD OF 'laws.FnExactFittingWords'. -/
def fnExactFittingWordsCard : Claim7 := { stood := { row := fnExactFittingWordsRow, standIns := [], harness := (true, "991e0df518dc7de31be7b525fedca6b111a25a29580da475f581eb759965474f"), looks := true }, kinds := [], alts := [], laidByText := true, laidKinds := [.data, .pinned], laidTests := true, laidLooks := .later }
def FnExactFittingWordsCardSaid : Prop := Claim7.holds Tryz.pinned (.plain (OpenSpec.ofChange fnExactFittingWordsSpec)) fnExactFittingWordsCard

/-- THE SECOND FORM's CARD OF 'laws.FnExactFittingWords'. -/
def fnExactFittingWordsUptoCard : Claim7 := { stood := { row := fnExactFittingWordsUptoRow, standIns := [], harness := (true, "991e0df518dc7de31be7b525fedca6b111a25a29580da475f581eb759965474f"), looks := true }, kinds := [], alts := [], laidByText := true, laidKinds := [.data, .pinned], laidTests := true, laidLooks := .later }
def FnExactFittingWordsUptoCardSaid : Prop := Claim7.holds Tryz.pinned (.plain (OpenSpec.upto fnExactFittingWordsSpec)) fnExactFittingWordsUptoCard
end Rows
end Go.Proofs.YtjpepfdpihojfaaGreatDoor
