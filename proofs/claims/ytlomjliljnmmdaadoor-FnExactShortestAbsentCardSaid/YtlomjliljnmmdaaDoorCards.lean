/-
  DERIVED. GIVEN WITH THE SEED: THE CARDS: each row of YtlomjliljnmmdaaDoorRows.lean that lists a variable, with what it lists TIED to the program's text (the seventh form; the later family's looks); each row that meets fmt, with fmt's text TOLD by the authors' own Lean function (tested against real Go, not proved from fmt's source: count such statements apart). THE CARD IS WHAT COUNTS. Prove the row's statement (the work); the ties are given (YtlomjliljnmmdaaDoorTie.lean); close each card by the builder's one call (the guide's Derived/Test/ToyasCard.lean, 'card_holds'). Laid BY PROGRAM, IN A SANDBOX (cutbox-door.mjs). By AI agents, Wed Nov 11 2026. No macro, syntax, notation, axiom, sorry.
-/
import Derived.Test.YtlomjliljnmmdaaDoorRows
import GoSem.ClaimSeven
namespace Go.Proofs.YtlomjliljnmmdaaDoor
namespace Rows

/-- THE TIED CARD OF 'laws.FnExactShortestAbsent'. -/
def fnExactShortestAbsentCard : Claim7 := { stood := { row := fnExactShortestAbsentRow, standIns := [], harness := (true, "badde94690518b0717bb8db4bcdd870dfa313c2fc84661ad75accd9c27d2228c"), looks := false }, kinds := [], alts := [], laidByText := true, laidKinds := [.data, .pinned], laidTests := true, laidLooks := .later }
def FnExactShortestAbsentCardSaid : Prop := Claim7.holds Tryd.pinned (.plain (OpenSpec.ofChange fnExactShortestAbsentSpec)) fnExactShortestAbsentCard

/-- THE SECOND FORM's CARD OF 'laws.FnExactShortestAbsent'. -/
def fnExactShortestAbsentUptoCard : Claim7 := { stood := { row := fnExactShortestAbsentUptoRow, standIns := [], harness := (true, "badde94690518b0717bb8db4bcdd870dfa313c2fc84661ad75accd9c27d2228c"), looks := false }, kinds := [], alts := [], laidByText := true, laidKinds := [.data, .pinned], laidTests := true, laidLooks := .later }
def FnExactShortestAbsentUptoCardSaid : Prop := Claim7.holds Tryd.pinned (.plain (OpenSpec.upto fnExactShortestAbsentSpec)) fnExactShortestAbsentUptoCard
end Rows
end Go.Proofs.YtlomjliljnmmdaaDoor
