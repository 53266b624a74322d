/-
  DERIVED. GIVEN WITH THE SEED: THE CARDS: each row of YtpgobnhklnglhaaDoorRows.lean that lists a variable, with what it lists TIED to the program's text (the seventh form; the later family's looks); each row that meets fmt, with fmt's text TOLD by the authors' own Lean function (tested against real Go, not proved from fmt's source: count such statements apart). THE CARD IS WHAT COUNTS. Prove the row's statement (the work); the ties are given (YtpgobnhklnglhaaDoorTie.lean); close each card by the builder's one call (the guide's Derived/Test/ToyasCard.lean, 'card_holds'). Laid BY PROGRAM, IN A SANDBOX (cutbox-door.mjs). By AI agents, Wed Nov 11 2026. No macro, syntax, notation, axiom, sorry.
-/
import Derived.Test.YtpgobnhklnglhaaDoorRows
import GoSem.ClaimSeven
namespace Go.Proofs.YtpgobnhklnglhaaDoor
namespace Rows

/-- THE TIED CARD OF 'laws.FnExactCommonSubstring'. -/
def fnExactCommonSubstringCard : Claim7 := { stood := { row := fnExactCommonSubstringRow, standIns := [], harness := (true, "9ae60ee42558e505d51ea8aff4f405cbdc85461b0477ae2c9f3e080b28545796"), looks := false }, kinds := [], alts := [], laidByText := true, laidKinds := [.data, .pinned], laidTests := true, laidLooks := .later }
def FnExactCommonSubstringCardSaid : Prop := Claim7.holds Tryd.pinned (.plain (OpenSpec.ofChange fnExactCommonSubstringSpec)) fnExactCommonSubstringCard

/-- THE TIED CARD OF 'laws.FnExactSubstringTrie'. -/
def fnExactSubstringTrieCard : Claim7 := { stood := { row := fnExactSubstringTrieRow, standIns := [], harness := (true, "9ae60ee42558e505d51ea8aff4f405cbdc85461b0477ae2c9f3e080b28545796"), looks := false }, kinds := [], alts := [], laidByText := true, laidKinds := [.data, .pinned], laidTests := true, laidLooks := .later }
def FnExactSubstringTrieCardSaid : Prop := Claim7.holds Tryd.pinned (.plain (OpenSpec.ofChange fnExactSubstringTrieSpec)) fnExactSubstringTrieCard

/-- THE TIED CARD OF 'laws.FnExactEditsOf'. -/
def fnExactEditsOfCard : Claim7 := { stood := { row := fnExactEditsOfRow, standIns := [], harness := (true, "9ae60ee42558e505d51ea8aff4f405cbdc85461b0477ae2c9f3e080b28545796"), looks := false }, kinds := [], alts := [], laidByText := true, laidKinds := [.data, .pinned], laidTests := true, laidLooks := .later }
def FnExactEditsOfCardSaid : Prop := Claim7.holds Tryd.pinned (.plain (OpenSpec.ofChange fnExactEditsOfSpec)) fnExactEditsOfCard

/-- THE TIED CARD OF 'laws.FnExactNearestWord'. -/
def fnExactNearestWordCard : Claim7 := { stood := { row := fnExactNearestWordRow, standIns := [], harness := (true, "9ae60ee42558e505d51ea8aff4f405cbdc85461b0477ae2c9f3e080b28545796"), looks := false }, kinds := [], alts := [], laidByText := true, laidKinds := [.data, .pinned], laidTests := true, laidLooks := .later }
def FnExactNearestWordCardSaid : Prop := Claim7.holds Tryd.pinned (.plain (OpenSpec.ofChange fnExactNearestWordSpec)) fnExactNearestWordCard

/-- THE SECOND FORM's CARD OF 'laws.FnExactCommonSubstring'. -/
def fnExactCommonSubstringUptoCard : Claim7 := { stood := { row := fnExactCommonSubstringUptoRow, standIns := [], harness := (true, "9ae60ee42558e505d51ea8aff4f405cbdc85461b0477ae2c9f3e080b28545796"), looks := false }, kinds := [], alts := [], laidByText := true, laidKinds := [.data, .pinned], laidTests := true, laidLooks := .later }
def FnExactCommonSubstringUptoCardSaid : Prop := Claim7.holds Tryd.pinned (.plain (OpenSpec.upto fnExactCommonSubstringSpec)) fnExactCommonSubstringUptoCard

/-- THE SECOND FORM's CARD OF 'laws.FnExactSubstringTrie'. -/
def fnExactSubstringTrieUptoCard : Claim7 := { stood := { row := fnExactSubstringTrieUptoRow, standIns := [], harness := (true, "9ae60ee42558e505d51ea8aff4f405cbdc85461b0477ae2c9f3e080b28545796"), looks := false }, kinds := [], alts := [], laidByText := true, laidKinds := [.data, .pinned], laidTests := true, laidLooks := .later }
def FnExactSubstringTrieUptoCardSaid : Prop := Claim7.holds Tryd.pinned (.plain (OpenSpec.upto fnExactSubstringTrieSpec)) fnExactSubstringTrieUptoCard

/-- THE SECOND FORM's CARD OF 'laws.FnExactEditsOf'. -/
def fnExactEditsOfUptoCard : Claim7 := { stood := { row := fnExactEditsOfUptoRow, standIns := [], harness := (true, "9ae60ee42558e505d51ea8aff4f405cbdc85461b0477ae2c9f3e080b28545796"), looks := false }, kinds := [], alts := [], laidByText := true, laidKinds := [.data, .pinned], laidTests := true, laidLooks := .later }
def FnExactEditsOfUptoCardSaid : Prop := Claim7.holds Tryd.pinned (.plain (OpenSpec.upto fnExactEditsOfSpec)) fnExactEditsOfUptoCard

/-- THE SECOND FORM's CARD OF 'laws.FnExactNearestWord'. -/
def fnExactNearestWordUptoCard : Claim7 := { stood := { row := fnExactNearestWordUptoRow, standIns := [], harness := (true, "9ae60ee42558e505d51ea8aff4f405cbdc85461b0477ae2c9f3e080b28545796"), looks := false }, kinds := [], alts := [], laidByText := true, laidKinds := [.data, .pinned], laidTests := true, laidLooks := .later }
def FnExactNearestWordUptoCardSaid : Prop := Claim7.holds Tryd.pinned (.plain (OpenSpec.upto fnExactNearestWordSpec)) fnExactNearestWordUptoCard
end Rows
end Go.Proofs.YtpgobnhklnglhaaDoor
