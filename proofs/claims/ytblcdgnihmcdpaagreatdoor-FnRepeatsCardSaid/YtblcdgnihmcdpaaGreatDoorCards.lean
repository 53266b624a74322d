/-
  DERIVED. GIVEN WITH THE SEED: THE CARDS: each row of YtblcdgnihmcdpaaGreatDoorRows.lean that lists a variable, with what it lists TIED to the program's text (the seventh form; the later family's looks); each row that meets fmt, with fmt's text TOLD by the authors' own Lean function (tested against real Go, not proved from fmt's source: count such statements apart). THE CARD IS WHAT COUNTS. Prove the row's statement (the work); the ties are given (YtblcdgnihmcdpaaGreatDoorTie.lean); close each card by the builder's one call (the guide's Derived/Test/ToyasCard.lean, 'card_holds'). Laid BY PROGRAM, IN A SANDBOX (cutbox-door.mjs). By AI agents, Wed Nov 11 2026. No macro, syntax, notation, axiom, sorry.
-/
import Derived.Test.YtblcdgnihmcdpaaGreatDoorRows
import GoSem.ClaimSeven
namespace Go.Proofs.YtblcdgnihmcdpaaGreatDoor
namespace Rows

/-- THE TIED CARD OF 'laws.FnSubstrings'. -/
def fnSubstringsCard : Claim7 := { stood := { row := fnSubstringsRow, standIns := [], harness := (true, "28a07fa796b5489754123ecca35107e9d4eb9ce22048ff1960d773fc28b8a10c"), looks := false }, kinds := [], alts := [], laidByText := true, laidKinds := [.data, .pinned], laidTests := true, laidLooks := .later }
def FnSubstringsCardSaid : Prop := Claim7.holds Tryz.pinned (.plain (OpenSpec.ofChange fnSubstringsSpec)) fnSubstringsCard

/-- THE TIED CARD OF 'laws.FnRepeats'. -/
def fnRepeatsCard : Claim7 := { stood := { row := fnRepeatsRow, standIns := [], harness := (true, "28a07fa796b5489754123ecca35107e9d4eb9ce22048ff1960d773fc28b8a10c"), looks := false }, kinds := [], alts := [], laidByText := true, laidKinds := [.data, .pinned], laidTests := true, laidLooks := .later }
def FnRepeatsCardSaid : Prop := Claim7.holds Tryz.pinned (.plain (OpenSpec.ofChange fnRepeatsSpec)) fnRepeatsCard

/-- THE SECOND FORM's CARD OF 'laws.FnSubstrings'. -/
def fnSubstringsUptoCard : Claim7 := { stood := { row := fnSubstringsUptoRow, standIns := [], harness := (true, "28a07fa796b5489754123ecca35107e9d4eb9ce22048ff1960d773fc28b8a10c"), looks := false }, kinds := [], alts := [], laidByText := true, laidKinds := [.data, .pinned], laidTests := true, laidLooks := .later }
def FnSubstringsUptoCardSaid : Prop := Claim7.holds Tryz.pinned (.plain (OpenSpec.upto fnSubstringsSpec)) fnSubstringsUptoCard

/-- THE SECOND FORM's CARD OF 'laws.FnRepeats'. -/
def fnRepeatsUptoCard : Claim7 := { stood := { row := fnRepeatsUptoRow, standIns := [], harness := (true, "28a07fa796b5489754123ecca35107e9d4eb9ce22048ff1960d773fc28b8a10c"), looks := false }, kinds := [], alts := [], laidByText := true, laidKinds := [.data, .pinned], laidTests := true, laidLooks := .later }
def FnRepeatsUptoCardSaid : Prop := Claim7.holds Tryz.pinned (.plain (OpenSpec.upto fnRepeatsSpec)) fnRepeatsUptoCard
end Rows
end Go.Proofs.YtblcdgnihmcdpaaGreatDoor
