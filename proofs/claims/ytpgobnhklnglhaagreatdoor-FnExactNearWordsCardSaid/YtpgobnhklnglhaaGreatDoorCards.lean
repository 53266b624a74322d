/-
  DERIVED. GIVEN WITH THE SEED: THE CARDS: each row of YtpgobnhklnglhaaGreatDoorRows.lean that lists a variable, with what it lists TIED to the program's text (the seventh form; the later family's looks); each row that meets fmt, with fmt's text TOLD by the authors' own Lean function (tested against real Go, not proved from fmt's source: count such statements apart). THE CARD IS WHAT COUNTS. Prove the row's statement (the work); the ties are given (YtpgobnhklnglhaaGreatDoorTie.lean); close each card by the builder's one call (the guide's Derived/Test/ToyasCard.lean, 'card_holds'). Laid BY PROGRAM, IN A SANDBOX (cutbox-door.mjs). By AI agents, Wed Nov 11 2026. No macro, syntax, notation, axiom, sorry.
-/
import Derived.Test.YtpgobnhklnglhaaGreatDoorRows
import GoSem.ClaimSeven
namespace Go.Proofs.YtpgobnhklnglhaaGreatDoor
namespace Rows

/-- THE TIED CARD OF 'laws.FnExactAlikeWords'. -/
def fnExactAlikeWordsCard : Claim7 := { stood := { row := fnExactAlikeWordsRow, standIns := [], harness := (true, "18b5349811558f14302ef38075f311b450dddf946eda31796879a43ec673fad8"), looks := false }, kinds := [], alts := [], laidByText := true, laidKinds := [.data, .pinned], laidTests := true, laidLooks := .later }
def FnExactAlikeWordsCardSaid : Prop := Claim7.holds Tryz.pinned (.plain (OpenSpec.ofChange fnExactAlikeWordsSpec)) fnExactAlikeWordsCard

/-- THE TIED CARD OF 'laws.FnExactMeanUnique'. -/
def fnExactMeanUniqueCard : Claim7 := { stood := { row := fnExactMeanUniqueRow, standIns := [], harness := (true, "18b5349811558f14302ef38075f311b450dddf946eda31796879a43ec673fad8"), looks := false }, kinds := [], alts := [], laidByText := true, laidKinds := [.data, .pinned], laidTests := true, laidLooks := .later }
def FnExactMeanUniqueCardSaid : Prop := Claim7.holds Tryz.pinned (.plain (OpenSpec.ofChange fnExactMeanUniqueSpec)) fnExactMeanUniqueCard

/-- THE TIED CARD OF 'laws.FnExactNearWords'. -/
def fnExactNearWordsCard : Claim7 := { stood := { row := fnExactNearWordsRow, standIns := [], harness := (true, "18b5349811558f14302ef38075f311b450dddf946eda31796879a43ec673fad8"), looks := false }, kinds := [], alts := [], laidByText := true, laidKinds := [.data, .pinned], laidTests := true, laidLooks := .later }
def FnExactNearWordsCardSaid : Prop := Claim7.holds Tryz.pinned (.plain (OpenSpec.ofChange fnExactNearWordsSpec)) fnExactNearWordsCard

/-- THE SECOND FORM's CARD OF 'laws.FnExactAlikeWords'. -/
def fnExactAlikeWordsUptoCard : Claim7 := { stood := { row := fnExactAlikeWordsUptoRow, standIns := [], harness := (true, "18b5349811558f14302ef38075f311b450dddf946eda31796879a43ec673fad8"), looks := false }, kinds := [], alts := [], laidByText := true, laidKinds := [.data, .pinned], laidTests := true, laidLooks := .later }
def FnExactAlikeWordsUptoCardSaid : Prop := Claim7.holds Tryz.pinned (.plain (OpenSpec.upto fnExactAlikeWordsSpec)) fnExactAlikeWordsUptoCard

/-- THE SECOND FORM's CARD OF 'laws.FnExactMeanUnique'. -/
def fnExactMeanUniqueUptoCard : Claim7 := { stood := { row := fnExactMeanUniqueUptoRow, standIns := [], harness := (true, "18b5349811558f14302ef38075f311b450dddf946eda31796879a43ec673fad8"), looks := false }, kinds := [], alts := [], laidByText := true, laidKinds := [.data, .pinned], laidTests := true, laidLooks := .later }
def FnExactMeanUniqueUptoCardSaid : Prop := Claim7.holds Tryz.pinned (.plain (OpenSpec.upto fnExactMeanUniqueSpec)) fnExactMeanUniqueUptoCard

/-- THE SECOND FORM's CARD OF 'laws.FnExactNearWords'. -/
def fnExactNearWordsUptoCard : Claim7 := { stood := { row := fnExactNearWordsUptoRow, standIns := [], harness := (true, "18b5349811558f14302ef38075f311b450dddf946eda31796879a43ec673fad8"), looks := false }, kinds := [], alts := [], laidByText := true, laidKinds := [.data, .pinned], laidTests := true, laidLooks := .later }
def FnExactNearWordsUptoCardSaid : Prop := Claim7.holds Tryz.pinned (.plain (OpenSpec.upto fnExactNearWordsSpec)) fnExactNearWordsUptoCard
end Rows
end Go.Proofs.YtpgobnhklnglhaaGreatDoor
