/-
  DERIVED. GIVEN WITH THE SEED: THE CARDS: each row of YtjoflkeiaoellaaDoorRows.lean that lists a variable, with what it lists TIED to the program's text (the seventh form; the later family's looks); each row that meets fmt, with fmt's text TOLD by the authors' own Lean function (tested against real Go, not proved from fmt's source: count such statements apart). THE CARD IS WHAT COUNTS. Prove the row's statement (the work); the ties are given (YtjoflkeiaoellaaDoorTie.lean); close each card by the builder's one call (the guide's Derived/Test/ToyasCard.lean, 'card_holds'). Laid BY PROGRAM, IN A SANDBOX (cutbox-door.mjs). By AI agents, Wed Nov 11 2026. No macro, syntax, notation, axiom, sorry.
-/
import Derived.Test.YtjoflkeiaoellaaDoorRows
import GoSem.ClaimSeven
namespace Go.Proofs.YtjoflkeiaoellaaDoor
namespace Rows

/-- THE TIED CARD OF 'laws.FnExactIsText'. -/
def fnExactIsTextCard : Claim7 := { stood := { row := fnExactIsTextRow, standIns := [], harness := (true, "4c712bdf3fc11f60ce056c4cea36d3085b06d6f32e50bfd925e90d7580ae0c2a"), looks := false }, kinds := [], alts := [], laidByText := true, laidKinds := [.data, .pinned], laidTests := true, laidLooks := .later }
def FnExactIsTextCardSaid : Prop := Claim7.holds Tryd.pinned (.plain (OpenSpec.ofChange fnExactIsTextSpec)) fnExactIsTextCard

/-- THE TIED CARD OF 'laws.FnExactOccursAt'. -/
def fnExactOccursAtCard : Claim7 := { stood := { row := fnExactOccursAtRow, standIns := [], harness := (true, "4c712bdf3fc11f60ce056c4cea36d3085b06d6f32e50bfd925e90d7580ae0c2a"), looks := false }, kinds := [], alts := [], laidByText := true, laidKinds := [.data, .pinned], laidTests := true, laidLooks := .later }
def FnExactOccursAtCardSaid : Prop := Claim7.holds Tryd.pinned (.plain (OpenSpec.ofChange fnExactOccursAtSpec)) fnExactOccursAtCard

/-- THE TIED CARD OF 'laws.FnExactShortestAbsent'. -/
def fnExactShortestAbsentCard : Claim7 := { stood := { row := fnExactShortestAbsentRow, standIns := [], harness := (true, "4c712bdf3fc11f60ce056c4cea36d3085b06d6f32e50bfd925e90d7580ae0c2a"), looks := false }, kinds := [], alts := [], laidByText := true, laidKinds := [.data, .pinned], laidTests := true, laidLooks := .later }
def FnExactShortestAbsentCardSaid : Prop := Claim7.holds Tryd.pinned (.plain (OpenSpec.ofChange fnExactShortestAbsentSpec)) fnExactShortestAbsentCard

/-- THE TIED CARD OF 'laws.FnExactEndsOf'. -/
def fnExactEndsOfCard : Claim7 := { stood := { row := fnExactEndsOfRow, standIns := [], harness := (true, "4c712bdf3fc11f60ce056c4cea36d3085b06d6f32e50bfd925e90d7580ae0c2a"), looks := false }, kinds := [], alts := [], laidByText := true, laidKinds := [.data, .pinned], laidTests := true, laidLooks := .later }
def FnExactEndsOfCardSaid : Prop := Claim7.holds Tryd.pinned (.plain (OpenSpec.ofChange fnExactEndsOfSpec)) fnExactEndsOfCard

/-- THE TIED CARD OF 'laws.FnExactCommonWithNext'. -/
def fnExactCommonWithNextCard : Claim7 := { stood := { row := fnExactCommonWithNextRow, standIns := [], harness := (true, "4c712bdf3fc11f60ce056c4cea36d3085b06d6f32e50bfd925e90d7580ae0c2a"), looks := false }, kinds := [], alts := [], laidByText := true, laidKinds := [.data, .pinned], laidTests := true, laidLooks := .later }
def FnExactCommonWithNextCardSaid : Prop := Claim7.holds Tryd.pinned (.plain (OpenSpec.ofChange fnExactCommonWithNextSpec)) fnExactCommonWithNextCard

/-- THE TIED CARD OF 'laws.FnExactCountSubstrings'. -/
def fnExactCountSubstringsCard : Claim7 := { stood := { row := fnExactCountSubstringsRow, standIns := [], harness := (true, "4c712bdf3fc11f60ce056c4cea36d3085b06d6f32e50bfd925e90d7580ae0c2a"), looks := false }, kinds := [], alts := [], laidByText := true, laidKinds := [.data, .pinned], laidTests := true, laidLooks := .later }
def FnExactCountSubstringsCardSaid : Prop := Claim7.holds Tryd.pinned (.plain (OpenSpec.ofChange fnExactCountSubstringsSpec)) fnExactCountSubstringsCard

/-- THE TIED CARD OF 'laws.FnExactCountOfLength'. -/
def fnExactCountOfLengthCard : Claim7 := { stood := { row := fnExactCountOfLengthRow, standIns := [], harness := (true, "4c712bdf3fc11f60ce056c4cea36d3085b06d6f32e50bfd925e90d7580ae0c2a"), looks := false }, kinds := [], alts := [], laidByText := true, laidKinds := [.data, .pinned], laidTests := true, laidLooks := .later }
def FnExactCountOfLengthCardSaid : Prop := Claim7.holds Tryd.pinned (.plain (OpenSpec.ofChange fnExactCountOfLengthSpec)) fnExactCountOfLengthCard

/-- THE TIED CARD OF 'laws.FnExactSubstringsOf'. -/
def fnExactSubstringsOfCard : Claim7 := { stood := { row := fnExactSubstringsOfRow, standIns := [], harness := (true, "4c712bdf3fc11f60ce056c4cea36d3085b06d6f32e50bfd925e90d7580ae0c2a"), looks := false }, kinds := [], alts := [], laidByText := true, laidKinds := [.data, .pinned], laidTests := true, laidLooks := .later }
def FnExactSubstringsOfCardSaid : Prop := Claim7.holds Tryd.pinned (.plain (OpenSpec.ofChange fnExactSubstringsOfSpec)) fnExactSubstringsOfCard

/-- THE TIED CARD OF 'laws.FnExactShortestOnce'. -/
def fnExactShortestOnceCard : Claim7 := { stood := { row := fnExactShortestOnceRow, standIns := [], harness := (true, "4c712bdf3fc11f60ce056c4cea36d3085b06d6f32e50bfd925e90d7580ae0c2a"), looks := false }, kinds := [], alts := [], laidByText := true, laidKinds := [.data, .pinned], laidTests := true, laidLooks := .later }
def FnExactShortestOnceCardSaid : Prop := Claim7.holds Tryd.pinned (.plain (OpenSpec.ofChange fnExactShortestOnceSpec)) fnExactShortestOnceCard

/-- THE TIED CARD OF 'laws.FnExactLongestRepeat'. -/
def fnExactLongestRepeatCard : Claim7 := { stood := { row := fnExactLongestRepeatRow, standIns := [], harness := (true, "4c712bdf3fc11f60ce056c4cea36d3085b06d6f32e50bfd925e90d7580ae0c2a"), looks := false }, kinds := [], alts := [], laidByText := true, laidKinds := [.data, .pinned], laidTests := true, laidLooks := .later }
def FnExactLongestRepeatCardSaid : Prop := Claim7.holds Tryd.pinned (.plain (OpenSpec.ofChange fnExactLongestRepeatSpec)) fnExactLongestRepeatCard

/-- THE TIED CARD OF 'laws.FnExactSquaresOf'. -/
def fnExactSquaresOfCard : Claim7 := { stood := { row := fnExactSquaresOfRow, standIns := [], harness := (true, "4c712bdf3fc11f60ce056c4cea36d3085b06d6f32e50bfd925e90d7580ae0c2a"), looks := false }, kinds := [], alts := [], laidByText := true, laidKinds := [.data, .pinned], laidTests := true, laidLooks := .later }
def FnExactSquaresOfCardSaid : Prop := Claim7.holds Tryd.pinned (.plain (OpenSpec.ofChange fnExactSquaresOfSpec)) fnExactSquaresOfCard

/-- THE TIED CARD OF 'laws.FnExactTurnsBack'. -/
def fnExactTurnsBackCard : Claim7 := { stood := { row := fnExactTurnsBackRow, standIns := [], harness := (true, "4c712bdf3fc11f60ce056c4cea36d3085b06d6f32e50bfd925e90d7580ae0c2a"), looks := false }, kinds := [], alts := [], laidByText := true, laidKinds := [.data, .pinned], laidTests := true, laidLooks := .later }
def FnExactTurnsBackCardSaid : Prop := Claim7.holds Tryd.pinned (.plain (OpenSpec.ofChange fnExactTurnsBackSpec)) fnExactTurnsBackCard

/-- THE SECOND FORM's CARD OF 'laws.FnExactIsText'. -/
def fnExactIsTextUptoCard : Claim7 := { stood := { row := fnExactIsTextUptoRow, standIns := [], harness := (true, "4c712bdf3fc11f60ce056c4cea36d3085b06d6f32e50bfd925e90d7580ae0c2a"), looks := false }, kinds := [], alts := [], laidByText := true, laidKinds := [.data, .pinned], laidTests := true, laidLooks := .later }
def FnExactIsTextUptoCardSaid : Prop := Claim7.holds Tryd.pinned (.plain (OpenSpec.upto fnExactIsTextSpec)) fnExactIsTextUptoCard

/-- THE SECOND FORM's CARD OF 'laws.FnExactOccursAt'. -/
def fnExactOccursAtUptoCard : Claim7 := { stood := { row := fnExactOccursAtUptoRow, standIns := [], harness := (true, "4c712bdf3fc11f60ce056c4cea36d3085b06d6f32e50bfd925e90d7580ae0c2a"), looks := false }, kinds := [], alts := [], laidByText := true, laidKinds := [.data, .pinned], laidTests := true, laidLooks := .later }
def FnExactOccursAtUptoCardSaid : Prop := Claim7.holds Tryd.pinned (.plain (OpenSpec.upto fnExactOccursAtSpec)) fnExactOccursAtUptoCard

/-- THE SECOND FORM's CARD OF 'laws.FnExactShortestAbsent'. -/
def fnExactShortestAbsentUptoCard : Claim7 := { stood := { row := fnExactShortestAbsentUptoRow, standIns := [], harness := (true, "4c712bdf3fc11f60ce056c4cea36d3085b06d6f32e50bfd925e90d7580ae0c2a"), looks := false }, kinds := [], alts := [], laidByText := true, laidKinds := [.data, .pinned], laidTests := true, laidLooks := .later }
def FnExactShortestAbsentUptoCardSaid : Prop := Claim7.holds Tryd.pinned (.plain (OpenSpec.upto fnExactShortestAbsentSpec)) fnExactShortestAbsentUptoCard

/-- THE SECOND FORM's CARD OF 'laws.FnExactEndsOf'. -/
def fnExactEndsOfUptoCard : Claim7 := { stood := { row := fnExactEndsOfUptoRow, standIns := [], harness := (true, "4c712bdf3fc11f60ce056c4cea36d3085b06d6f32e50bfd925e90d7580ae0c2a"), looks := false }, kinds := [], alts := [], laidByText := true, laidKinds := [.data, .pinned], laidTests := true, laidLooks := .later }
def FnExactEndsOfUptoCardSaid : Prop := Claim7.holds Tryd.pinned (.plain (OpenSpec.upto fnExactEndsOfSpec)) fnExactEndsOfUptoCard

/-- THE SECOND FORM's CARD OF 'laws.FnExactCommonWithNext'. -/
def fnExactCommonWithNextUptoCard : Claim7 := { stood := { row := fnExactCommonWithNextUptoRow, standIns := [], harness := (true, "4c712bdf3fc11f60ce056c4cea36d3085b06d6f32e50bfd925e90d7580ae0c2a"), looks := false }, kinds := [], alts := [], laidByText := true, laidKinds := [.data, .pinned], laidTests := true, laidLooks := .later }
def FnExactCommonWithNextUptoCardSaid : Prop := Claim7.holds Tryd.pinned (.plain (OpenSpec.upto fnExactCommonWithNextSpec)) fnExactCommonWithNextUptoCard

/-- THE SECOND FORM's CARD OF 'laws.FnExactCountSubstrings'. -/
def fnExactCountSubstringsUptoCard : Claim7 := { stood := { row := fnExactCountSubstringsUptoRow, standIns := [], harness := (true, "4c712bdf3fc11f60ce056c4cea36d3085b06d6f32e50bfd925e90d7580ae0c2a"), looks := false }, kinds := [], alts := [], laidByText := true, laidKinds := [.data, .pinned], laidTests := true, laidLooks := .later }
def FnExactCountSubstringsUptoCardSaid : Prop := Claim7.holds Tryd.pinned (.plain (OpenSpec.upto fnExactCountSubstringsSpec)) fnExactCountSubstringsUptoCard

/-- THE SECOND FORM's CARD OF 'laws.FnExactCountOfLength'. -/
def fnExactCountOfLengthUptoCard : Claim7 := { stood := { row := fnExactCountOfLengthUptoRow, standIns := [], harness := (true, "4c712bdf3fc11f60ce056c4cea36d3085b06d6f32e50bfd925e90d7580ae0c2a"), looks := false }, kinds := [], alts := [], laidByText := true, laidKinds := [.data, .pinned], laidTests := true, laidLooks := .later }
def FnExactCountOfLengthUptoCardSaid : Prop := Claim7.holds Tryd.pinned (.plain (OpenSpec.upto fnExactCountOfLengthSpec)) fnExactCountOfLengthUptoCard

/-- THE SECOND FORM's CARD OF 'laws.FnExactSubstringsOf'. -/
def fnExactSubstringsOfUptoCard : Claim7 := { stood := { row := fnExactSubstringsOfUptoRow, standIns := [], harness := (true, "4c712bdf3fc11f60ce056c4cea36d3085b06d6f32e50bfd925e90d7580ae0c2a"), looks := false }, kinds := [], alts := [], laidByText := true, laidKinds := [.data, .pinned], laidTests := true, laidLooks := .later }
def FnExactSubstringsOfUptoCardSaid : Prop := Claim7.holds Tryd.pinned (.plain (OpenSpec.upto fnExactSubstringsOfSpec)) fnExactSubstringsOfUptoCard

/-- THE SECOND FORM's CARD OF 'laws.FnExactShortestOnce'. -/
def fnExactShortestOnceUptoCard : Claim7 := { stood := { row := fnExactShortestOnceUptoRow, standIns := [], harness := (true, "4c712bdf3fc11f60ce056c4cea36d3085b06d6f32e50bfd925e90d7580ae0c2a"), looks := false }, kinds := [], alts := [], laidByText := true, laidKinds := [.data, .pinned], laidTests := true, laidLooks := .later }
def FnExactShortestOnceUptoCardSaid : Prop := Claim7.holds Tryd.pinned (.plain (OpenSpec.upto fnExactShortestOnceSpec)) fnExactShortestOnceUptoCard

/-- THE SECOND FORM's CARD OF 'laws.FnExactLongestRepeat'. -/
def fnExactLongestRepeatUptoCard : Claim7 := { stood := { row := fnExactLongestRepeatUptoRow, standIns := [], harness := (true, "4c712bdf3fc11f60ce056c4cea36d3085b06d6f32e50bfd925e90d7580ae0c2a"), looks := false }, kinds := [], alts := [], laidByText := true, laidKinds := [.data, .pinned], laidTests := true, laidLooks := .later }
def FnExactLongestRepeatUptoCardSaid : Prop := Claim7.holds Tryd.pinned (.plain (OpenSpec.upto fnExactLongestRepeatSpec)) fnExactLongestRepeatUptoCard

/-- THE SECOND FORM's CARD OF 'laws.FnExactSquaresOf'. -/
def fnExactSquaresOfUptoCard : Claim7 := { stood := { row := fnExactSquaresOfUptoRow, standIns := [], harness := (true, "4c712bdf3fc11f60ce056c4cea36d3085b06d6f32e50bfd925e90d7580ae0c2a"), looks := false }, kinds := [], alts := [], laidByText := true, laidKinds := [.data, .pinned], laidTests := true, laidLooks := .later }
def FnExactSquaresOfUptoCardSaid : Prop := Claim7.holds Tryd.pinned (.plain (OpenSpec.upto fnExactSquaresOfSpec)) fnExactSquaresOfUptoCard

/-- THE SECOND FORM's CARD OF 'laws.FnExactTurnsBack'. -/
def fnExactTurnsBackUptoCard : Claim7 := { stood := { row := fnExactTurnsBackUptoRow, standIns := [], harness := (true, "4c712bdf3fc11f60ce056c4cea36d3085b06d6f32e50bfd925e90d7580ae0c2a"), looks := false }, kinds := [], alts := [], laidByText := true, laidKinds := [.data, .pinned], laidTests := true, laidLooks := .later }
def FnExactTurnsBackUptoCardSaid : Prop := Claim7.holds Tryd.pinned (.plain (OpenSpec.upto fnExactTurnsBackSpec)) fnExactTurnsBackUptoCard
end Rows
end Go.Proofs.YtjoflkeiaoellaaDoor
