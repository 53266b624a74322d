/-
  NARROWER THAN 'FOR EVERY INPUT', by the rows' own cells (each row's printed sentence says how): FnExactIsText: laid · FnExactOccursAt: laid · FnExactShortestAbsent: laid · FnExactEndsOf: laid · FnExactCommonWithNext: laid · FnExactCountSubstrings: laid · FnExactCountOfLength: laid · FnExactSubstringsOf: laid · FnExactShortestOnce: laid · FnExactLongestRepeat: laid · FnExactSquaresOf: laid · FnExactTurnsBack: laid.
  DERIVED. THE GIVEN ROWS OF THIS SEAT. 12 by the template 'for every input the law returns true; each argument reads behind the call as it read before'; 0 by the template 'total and deterministic' (their statements: YtjoflkeiaoellaaDoorTotals.lean).
  GIVEN WITH THE SEED: the statements are not yours to turn. If you find one false, say at which input.
  Laid BY PROGRAM, IN A SANDBOX (cutbox-rows.mjs): the forced cells as the released guide's own fill.sh prints them over the translation 233f7b0acf3f9ba2… (all of the seat's roots in one cut). By AI agents, Wed Nov 11 2026. No macro, syntax, notation, axiom, sorry.
-/
import Derived.Test.YtjoflkeiaoellaaDoorChecked
import GoSem.PinnedTables
import GoSem.Claim
import GoSem.ClaimJoined
import GoSem.ClaimMapViews
import Derived.JoinedTies
import Derived.KernelRfl
namespace Go.Proofs.YtjoflkeiaoellaaDoor
/- THE CELL 'sum', in the pinned program and in every row, IS THE sha256 OF THE DUMP (.gsa) THAT YtjoflkeiaoellaaDoorProg.lean LOADS. Nothing in Lean hashes anything: it is a label: what it is worth is what the hold of that sum in a sandbox is worth. -/
noncomputable def Tryd.pinned : Pinned := { name := "ytjoflkeiaoellaadoor", sum := "233f7b0acf3f9ba243fa8cec8121f7ecd91de919c88b5643d907ffb8ebb715c8", checked := Tryd.checked }
namespace Rows
def none {H : Type} : Left H := { results := [], args := [] }

/- WHAT THE LISTED PACKAGE-LEVEL VARIABLES READ AS WHEN THE CALL BEGINS. Each datum BY PROGRAM (the guide's laid-datum.mjs) off the statement by which the dump's own 'gosem.cut.vars' lays the variable. In a bare row this is a premise. The card (YtjoflkeiaoellaaDoorCards.lean) ties it to the program's text. -/
def laid_unicode_utf8_acceptRanges {H : Type} : DataW H := .agg [.agg [.lit (.int .u8 128), .lit (.int .u8 191)], .agg [.lit (.int .u8 160), .lit (.int .u8 191)], .agg [.lit (.int .u8 128), .lit (.int .u8 159)], .agg [.lit (.int .u8 144), .lit (.int .u8 191)], .agg [.lit (.int .u8 128), .lit (.int .u8 143)], .agg [.lit (.int .u8 0), .lit (.int .u8 0)], .agg [.lit (.int .u8 0), .lit (.int .u8 0)], .agg [.lit (.int .u8 0), .lit (.int .u8 0)], .agg [.lit (.int .u8 0), .lit (.int .u8 0)], .agg [.lit (.int .u8 0), .lit (.int .u8 0)], .agg [.lit (.int .u8 0), .lit (.int .u8 0)], .agg [.lit (.int .u8 0), .lit (.int .u8 0)], .agg [.lit (.int .u8 0), .lit (.int .u8 0)], .agg [.lit (.int .u8 0), .lit (.int .u8 0)], .agg [.lit (.int .u8 0), .lit (.int .u8 0)], .agg [.lit (.int .u8 0), .lit (.int .u8 0)]]
/-- One of Go's own tables, pinned by name: the form's constant. -/
def laid_unicode_utf8_first : DataW Unit := Go.Pinned.utf8First

/-- 'laws.FnExactIsText': WHATEVER THE INPUT: true; the input reads as it did. -/
def fnExactIsTextSpec : ChangeSpec := { name := "fnExactIsText", fn := fun _ => fun
  | [d] => { results := [.lit (.bool true)], args := [d] }
  | _ => none }
def fnExactIsTextRow : OpenClaim := { program := "ytjoflkeiaoellaadoor", sum := "233f7b0acf3f9ba243fa8cec8121f7ecd91de919c88b5643d907ffb8ebb715c8", func := "loop.example/g01243/laws.FnExactIsText", spec := "fnExactIsText", inPlace := ["internal/bytealg.IndexByteString", "internal/bytealg.IndexString"], named := ["unicode/utf8.first", "unicode/utf8.acceptRanges", "internal/bytealg.MaxLen"], apart := false, laid := [("unicode/utf8.acceptRanges", laid_unicode_utf8_acceptRanges), ("unicode/utf8.first", laid_unicode_utf8_first)] }
def FnExactIsTextSaid : Prop := fnExactIsTextRow.holds Tryd.pinned (OpenSpec.ofChange fnExactIsTextSpec)

/-- ITS FALSE NEIGHBOUR: 'it returns false'. Refute it at one input. -/
def fnExactIsTextWrong : ChangeSpec := { name := "fnExactIsText", fn := fun _ => fun
  | [d] => { results := [.lit (.bool false)], args := [d] }
  | _ => none }
def FnExactIsTextWrongFalsely : Prop := fnExactIsTextRow.holds Tryd.pinned (OpenSpec.ofChange fnExactIsTextWrong)

/-- 'laws.FnExactOccursAt': WHATEVER THE INPUT: true; the input reads as it did. -/
def fnExactOccursAtSpec : ChangeSpec := { name := "fnExactOccursAt", fn := fun _ => fun
  | [d1, d2] => { results := [.lit (.bool true)], args := [d1, d2] }
  | _ => none }
def fnExactOccursAtRow : OpenClaim := { program := "ytjoflkeiaoellaadoor", sum := "233f7b0acf3f9ba243fa8cec8121f7ecd91de919c88b5643d907ffb8ebb715c8", func := "loop.example/g01243/laws.FnExactOccursAt", spec := "fnExactOccursAt", inPlace := ["internal/bytealg.IndexByteString", "internal/bytealg.IndexString"], named := ["unicode/utf8.first", "unicode/utf8.acceptRanges", "internal/bytealg.MaxLen"], apart := false, laid := [("unicode/utf8.acceptRanges", laid_unicode_utf8_acceptRanges), ("unicode/utf8.first", laid_unicode_utf8_first)] }
def FnExactOccursAtSaid : Prop := fnExactOccursAtRow.holds Tryd.pinned (OpenSpec.ofChange fnExactOccursAtSpec)

/-- ITS FALSE NEIGHBOUR: 'it returns false'. Refute it at one input. -/
def fnExactOccursAtWrong : ChangeSpec := { name := "fnExactOccursAt", fn := fun _ => fun
  | [d1, d2] => { results := [.lit (.bool false)], args := [d1, d2] }
  | _ => none }
def FnExactOccursAtWrongFalsely : Prop := fnExactOccursAtRow.holds Tryd.pinned (OpenSpec.ofChange fnExactOccursAtWrong)

/-- 'laws.FnExactShortestAbsent': WHATEVER THE INPUT: true; the input reads as it did. -/
def fnExactShortestAbsentSpec : ChangeSpec := { name := "fnExactShortestAbsent", fn := fun _ => fun
  | [d1, d2] => { results := [.lit (.bool true)], args := [d1, d2] }
  | _ => none }
def fnExactShortestAbsentRow : OpenClaim := { program := "ytjoflkeiaoellaadoor", sum := "233f7b0acf3f9ba243fa8cec8121f7ecd91de919c88b5643d907ffb8ebb715c8", func := "loop.example/g01243/laws.FnExactShortestAbsent", spec := "fnExactShortestAbsent", inPlace := ["internal/bytealg.IndexByteString", "internal/bytealg.IndexString"], named := ["unicode/utf8.first", "unicode/utf8.acceptRanges", "internal/bytealg.MaxLen"], apart := false, laid := [("unicode/utf8.acceptRanges", laid_unicode_utf8_acceptRanges), ("unicode/utf8.first", laid_unicode_utf8_first)] }
def FnExactShortestAbsentSaid : Prop := fnExactShortestAbsentRow.holds Tryd.pinned (OpenSpec.ofChange fnExactShortestAbsentSpec)

/-- ITS FALSE NEIGHBOUR: 'it returns false'. Refute it at one input. -/
def fnExactShortestAbsentWrong : ChangeSpec := { name := "fnExactShortestAbsent", fn := fun _ => fun
  | [d1, d2] => { results := [.lit (.bool false)], args := [d1, d2] }
  | _ => none }
def FnExactShortestAbsentWrongFalsely : Prop := fnExactShortestAbsentRow.holds Tryd.pinned (OpenSpec.ofChange fnExactShortestAbsentWrong)

/-- 'laws.FnExactEndsOf': WHATEVER THE INPUT: true; the input reads as it did. -/
def fnExactEndsOfSpec : ChangeSpec := { name := "fnExactEndsOf", fn := fun _ => fun
  | [d] => { results := [.lit (.bool true)], args := [d] }
  | _ => none }
def fnExactEndsOfRow : OpenClaim := { program := "ytjoflkeiaoellaadoor", sum := "233f7b0acf3f9ba243fa8cec8121f7ecd91de919c88b5643d907ffb8ebb715c8", func := "loop.example/g01243/laws.FnExactEndsOf", spec := "fnExactEndsOf", inPlace := ["internal/bytealg.IndexByteString", "internal/bytealg.IndexString", "internal/bytealg.abigen_runtime_cmpstring"], unfollowed := true, recurses := true, named := ["unicode/utf8.first", "unicode/utf8.acceptRanges", "internal/bytealg.MaxLen"], apart := false, laid := [("unicode/utf8.acceptRanges", laid_unicode_utf8_acceptRanges), ("unicode/utf8.first", laid_unicode_utf8_first)] }
def FnExactEndsOfSaid : Prop := fnExactEndsOfRow.holds Tryd.pinned (OpenSpec.ofChange fnExactEndsOfSpec)

/-- ITS FALSE NEIGHBOUR: 'it returns false'. Refute it at one input. -/
def fnExactEndsOfWrong : ChangeSpec := { name := "fnExactEndsOf", fn := fun _ => fun
  | [d] => { results := [.lit (.bool false)], args := [d] }
  | _ => none }
def FnExactEndsOfWrongFalsely : Prop := fnExactEndsOfRow.holds Tryd.pinned (OpenSpec.ofChange fnExactEndsOfWrong)

/-- 'laws.FnExactCommonWithNext': WHATEVER THE INPUT: true; the input reads as it did. -/
def fnExactCommonWithNextSpec : ChangeSpec := { name := "fnExactCommonWithNext", fn := fun _ => fun
  | [d] => { results := [.lit (.bool true)], args := [d] }
  | _ => none }
def fnExactCommonWithNextRow : OpenClaim := { program := "ytjoflkeiaoellaadoor", sum := "233f7b0acf3f9ba243fa8cec8121f7ecd91de919c88b5643d907ffb8ebb715c8", func := "loop.example/g01243/laws.FnExactCommonWithNext", spec := "fnExactCommonWithNext", inPlace := ["internal/bytealg.IndexByteString", "internal/bytealg.IndexString", "internal/bytealg.abigen_runtime_cmpstring"], unfollowed := true, recurses := true, named := ["unicode/utf8.first", "unicode/utf8.acceptRanges", "internal/bytealg.MaxLen"], apart := false, laid := [("unicode/utf8.acceptRanges", laid_unicode_utf8_acceptRanges), ("unicode/utf8.first", laid_unicode_utf8_first)] }
def FnExactCommonWithNextSaid : Prop := fnExactCommonWithNextRow.holds Tryd.pinned (OpenSpec.ofChange fnExactCommonWithNextSpec)

/-- ITS FALSE NEIGHBOUR: 'it returns false'. Refute it at one input. -/
def fnExactCommonWithNextWrong : ChangeSpec := { name := "fnExactCommonWithNext", fn := fun _ => fun
  | [d] => { results := [.lit (.bool false)], args := [d] }
  | _ => none }
def FnExactCommonWithNextWrongFalsely : Prop := fnExactCommonWithNextRow.holds Tryd.pinned (OpenSpec.ofChange fnExactCommonWithNextWrong)

/-- 'laws.FnExactCountSubstrings': WHATEVER THE INPUT: true; the input reads as it did. -/
def fnExactCountSubstringsSpec : ChangeSpec := { name := "fnExactCountSubstrings", fn := fun _ => fun
  | [d] => { results := [.lit (.bool true)], args := [d] }
  | _ => none }
def fnExactCountSubstringsRow : OpenClaim := { program := "ytjoflkeiaoellaadoor", sum := "233f7b0acf3f9ba243fa8cec8121f7ecd91de919c88b5643d907ffb8ebb715c8", func := "loop.example/g01243/laws.FnExactCountSubstrings", spec := "fnExactCountSubstrings", inPlace := ["internal/bytealg.IndexByteString", "internal/bytealg.IndexString"], unfollowed := true, recurses := true, named := ["unicode/utf8.first", "unicode/utf8.acceptRanges", "internal/bytealg.MaxLen"], apart := false, laid := [("unicode/utf8.acceptRanges", laid_unicode_utf8_acceptRanges), ("unicode/utf8.first", laid_unicode_utf8_first)] }
def FnExactCountSubstringsSaid : Prop := fnExactCountSubstringsRow.holds Tryd.pinned (OpenSpec.ofChange fnExactCountSubstringsSpec)

/-- ITS FALSE NEIGHBOUR: 'it returns false'. Refute it at one input. -/
def fnExactCountSubstringsWrong : ChangeSpec := { name := "fnExactCountSubstrings", fn := fun _ => fun
  | [d] => { results := [.lit (.bool false)], args := [d] }
  | _ => none }
def FnExactCountSubstringsWrongFalsely : Prop := fnExactCountSubstringsRow.holds Tryd.pinned (OpenSpec.ofChange fnExactCountSubstringsWrong)

/-- 'laws.FnExactCountOfLength': WHATEVER THE INPUT: true; the input reads as it did. -/
def fnExactCountOfLengthSpec : ChangeSpec := { name := "fnExactCountOfLength", fn := fun _ => fun
  | [d] => { results := [.lit (.bool true)], args := [d] }
  | _ => none }
def fnExactCountOfLengthRow : OpenClaim := { program := "ytjoflkeiaoellaadoor", sum := "233f7b0acf3f9ba243fa8cec8121f7ecd91de919c88b5643d907ffb8ebb715c8", func := "loop.example/g01243/laws.FnExactCountOfLength", spec := "fnExactCountOfLength", inPlace := ["internal/bytealg.IndexByteString", "internal/bytealg.IndexString"], unfollowed := true, recurses := true, named := ["unicode/utf8.first", "unicode/utf8.acceptRanges", "internal/bytealg.MaxLen"], apart := false, laid := [("unicode/utf8.acceptRanges", laid_unicode_utf8_acceptRanges), ("unicode/utf8.first", laid_unicode_utf8_first)] }
def FnExactCountOfLengthSaid : Prop := fnExactCountOfLengthRow.holds Tryd.pinned (OpenSpec.ofChange fnExactCountOfLengthSpec)

/-- ITS FALSE NEIGHBOUR: 'it returns false'. Refute it at one input. -/
def fnExactCountOfLengthWrong : ChangeSpec := { name := "fnExactCountOfLength", fn := fun _ => fun
  | [d] => { results := [.lit (.bool false)], args := [d] }
  | _ => none }
def FnExactCountOfLengthWrongFalsely : Prop := fnExactCountOfLengthRow.holds Tryd.pinned (OpenSpec.ofChange fnExactCountOfLengthWrong)

/-- 'laws.FnExactSubstringsOf': WHATEVER THE INPUT: true; the input reads as it did. -/
def fnExactSubstringsOfSpec : ChangeSpec := { name := "fnExactSubstringsOf", fn := fun _ => fun
  | [d] => { results := [.lit (.bool true)], args := [d] }
  | _ => none }
def fnExactSubstringsOfRow : OpenClaim := { program := "ytjoflkeiaoellaadoor", sum := "233f7b0acf3f9ba243fa8cec8121f7ecd91de919c88b5643d907ffb8ebb715c8", func := "loop.example/g01243/laws.FnExactSubstringsOf", spec := "fnExactSubstringsOf", inPlace := ["internal/bytealg.IndexByteString", "internal/bytealg.IndexString"], unfollowed := true, recurses := true, named := ["unicode/utf8.first", "unicode/utf8.acceptRanges", "internal/bytealg.MaxLen"], apart := false, laid := [("unicode/utf8.acceptRanges", laid_unicode_utf8_acceptRanges), ("unicode/utf8.first", laid_unicode_utf8_first)] }
def FnExactSubstringsOfSaid : Prop := fnExactSubstringsOfRow.holds Tryd.pinned (OpenSpec.ofChange fnExactSubstringsOfSpec)

/-- ITS FALSE NEIGHBOUR: 'it returns false'. Refute it at one input. -/
def fnExactSubstringsOfWrong : ChangeSpec := { name := "fnExactSubstringsOf", fn := fun _ => fun
  | [d] => { results := [.lit (.bool false)], args := [d] }
  | _ => none }
def FnExactSubstringsOfWrongFalsely : Prop := fnExactSubstringsOfRow.holds Tryd.pinned (OpenSpec.ofChange fnExactSubstringsOfWrong)

/-- 'laws.FnExactShortestOnce': WHATEVER THE INPUT: true; the input reads as it did. -/
def fnExactShortestOnceSpec : ChangeSpec := { name := "fnExactShortestOnce", fn := fun _ => fun
  | [d] => { results := [.lit (.bool true)], args := [d] }
  | _ => none }
def fnExactShortestOnceRow : OpenClaim := { program := "ytjoflkeiaoellaadoor", sum := "233f7b0acf3f9ba243fa8cec8121f7ecd91de919c88b5643d907ffb8ebb715c8", func := "loop.example/g01243/laws.FnExactShortestOnce", spec := "fnExactShortestOnce", inPlace := ["internal/bytealg.IndexByteString", "internal/bytealg.IndexString"], unfollowed := true, recurses := true, named := ["unicode/utf8.first", "unicode/utf8.acceptRanges", "internal/bytealg.MaxLen"], apart := false, laid := [("unicode/utf8.acceptRanges", laid_unicode_utf8_acceptRanges), ("unicode/utf8.first", laid_unicode_utf8_first)] }
def FnExactShortestOnceSaid : Prop := fnExactShortestOnceRow.holds Tryd.pinned (OpenSpec.ofChange fnExactShortestOnceSpec)

/-- ITS FALSE NEIGHBOUR: 'it returns false'. Refute it at one input. -/
def fnExactShortestOnceWrong : ChangeSpec := { name := "fnExactShortestOnce", fn := fun _ => fun
  | [d] => { results := [.lit (.bool false)], args := [d] }
  | _ => none }
def FnExactShortestOnceWrongFalsely : Prop := fnExactShortestOnceRow.holds Tryd.pinned (OpenSpec.ofChange fnExactShortestOnceWrong)

/-- 'laws.FnExactLongestRepeat': WHATEVER THE INPUT: true; the input reads as it did. -/
def fnExactLongestRepeatSpec : ChangeSpec := { name := "fnExactLongestRepeat", fn := fun _ => fun
  | [d] => { results := [.lit (.bool true)], args := [d] }
  | _ => none }
def fnExactLongestRepeatRow : OpenClaim := { program := "ytjoflkeiaoellaadoor", sum := "233f7b0acf3f9ba243fa8cec8121f7ecd91de919c88b5643d907ffb8ebb715c8", func := "loop.example/g01243/laws.FnExactLongestRepeat", spec := "fnExactLongestRepeat", inPlace := ["internal/bytealg.IndexByteString", "internal/bytealg.IndexString"], unfollowed := true, recurses := true, named := ["unicode/utf8.first", "unicode/utf8.acceptRanges", "internal/bytealg.MaxLen"], apart := false, laid := [("unicode/utf8.acceptRanges", laid_unicode_utf8_acceptRanges), ("unicode/utf8.first", laid_unicode_utf8_first)] }
def FnExactLongestRepeatSaid : Prop := fnExactLongestRepeatRow.holds Tryd.pinned (OpenSpec.ofChange fnExactLongestRepeatSpec)

/-- ITS FALSE NEIGHBOUR: 'it returns false'. Refute it at one input. -/
def fnExactLongestRepeatWrong : ChangeSpec := { name := "fnExactLongestRepeat", fn := fun _ => fun
  | [d] => { results := [.lit (.bool false)], args := [d] }
  | _ => none }
def FnExactLongestRepeatWrongFalsely : Prop := fnExactLongestRepeatRow.holds Tryd.pinned (OpenSpec.ofChange fnExactLongestRepeatWrong)

/-- 'laws.FnExactSquaresOf': WHATEVER THE INPUT: true; the input reads as it did. -/
def fnExactSquaresOfSpec : ChangeSpec := { name := "fnExactSquaresOf", fn := fun _ => fun
  | [d] => { results := [.lit (.bool true)], args := [d] }
  | _ => none }
def fnExactSquaresOfRow : OpenClaim := { program := "ytjoflkeiaoellaadoor", sum := "233f7b0acf3f9ba243fa8cec8121f7ecd91de919c88b5643d907ffb8ebb715c8", func := "loop.example/g01243/laws.FnExactSquaresOf", spec := "fnExactSquaresOf", inPlace := ["internal/bytealg.IndexByteString", "internal/bytealg.IndexString"], unfollowed := true, recurses := true, named := ["unicode/utf8.first", "unicode/utf8.acceptRanges", "internal/bytealg.MaxLen"], apart := false, laid := [("unicode/utf8.acceptRanges", laid_unicode_utf8_acceptRanges), ("unicode/utf8.first", laid_unicode_utf8_first)] }
def FnExactSquaresOfSaid : Prop := fnExactSquaresOfRow.holds Tryd.pinned (OpenSpec.ofChange fnExactSquaresOfSpec)

/-- ITS FALSE NEIGHBOUR: 'it returns false'. Refute it at one input. -/
def fnExactSquaresOfWrong : ChangeSpec := { name := "fnExactSquaresOf", fn := fun _ => fun
  | [d] => { results := [.lit (.bool false)], args := [d] }
  | _ => none }
def FnExactSquaresOfWrongFalsely : Prop := fnExactSquaresOfRow.holds Tryd.pinned (OpenSpec.ofChange fnExactSquaresOfWrong)

/-- 'laws.FnExactTurnsBack': WHATEVER THE INPUT: true; the input reads as it did. -/
def fnExactTurnsBackSpec : ChangeSpec := { name := "fnExactTurnsBack", fn := fun _ => fun
  | [d] => { results := [.lit (.bool true)], args := [d] }
  | _ => none }
def fnExactTurnsBackRow : OpenClaim := { program := "ytjoflkeiaoellaadoor", sum := "233f7b0acf3f9ba243fa8cec8121f7ecd91de919c88b5643d907ffb8ebb715c8", func := "loop.example/g01243/laws.FnExactTurnsBack", spec := "fnExactTurnsBack", inPlace := ["internal/bytealg.IndexByteString", "internal/bytealg.IndexString"], unfollowed := true, recurses := true, named := ["unicode/utf8.first", "unicode/utf8.acceptRanges", "internal/bytealg.MaxLen"], apart := false, laid := [("unicode/utf8.acceptRanges", laid_unicode_utf8_acceptRanges), ("unicode/utf8.first", laid_unicode_utf8_first)] }
def FnExactTurnsBackSaid : Prop := fnExactTurnsBackRow.holds Tryd.pinned (OpenSpec.ofChange fnExactTurnsBackSpec)

/-- ITS FALSE NEIGHBOUR: 'it returns false'. Refute it at one input. -/
def fnExactTurnsBackWrong : ChangeSpec := { name := "fnExactTurnsBack", fn := fun _ => fun
  | [d] => { results := [.lit (.bool false)], args := [d] }
  | _ => none }
def FnExactTurnsBackWrongFalsely : Prop := fnExactTurnsBackRow.holds Tryd.pinned (OpenSpec.ofChange fnExactTurnsBackWrong)

/- THE SECOND FORM. 'bulk': how many values and letters a reading holds, each counted each time it is reached (what is shared counts as often as it is met; a slice's spare places count too). A statement '..UptoSaid' is the law's where the arguments, and the package variables that the reading takes, are together of bulk at most 1048576: NARROWER than '..Said'. Prove '..Said' where nothing that the law and all that it calls make is longer than what came in: it says more and counts as full. Else prove '..UptoSaid'. A law counts once. -/
mutual
def uptoBulk {H : Type} : DataW H → Nat
  | .lit (.string bytes) => bytes.length + 1
  | .lit _ => 1
  | .nil => 1
  | .ptr d => uptoBulk d + 1
  | .slice elems spare => uptoBulkAll elems + uptoBulkAll spare + 1
  | .agg parts => uptoBulkAll parts + 1
  | .iface _ d => uptoBulk d + 1
  | .map entries => uptoBulkEntries entries + 1
  | .held _ => 1
def uptoBulkAll {H : Type} : List (DataW H) → Nat
  | [] => 0
  | d :: r => uptoBulk d + uptoBulkAll r
def uptoBulkEntries {H : Type} : List (Lit × DataW H) → Nat
  | [] => 0
  | x :: r => uptoBulkEntry x + uptoBulkEntries r
def uptoBulkEntry {H : Type} : Lit × DataW H → Nat
  | (.string bytes, d) => bytes.length + uptoBulk d + 1
  | (_, d) => uptoBulk d + 1
 end
def uptoSmall : (H : Type) → List (DataW H) → Bool := fun _ ds => decide (uptoBulkAll ds ≤ 1048576)
def OpenSpec.upto (s : _root_.Go.ChangeSpec) : _root_.Go.OpenSpec := { _root_.Go.OpenSpec.ofChange s with cond := some uptoSmall }

/-- 'laws.FnExactIsText', WHERE WHAT IT READS IS OF BULK AT MOST 1048576: true; the input reads as it did. -/
def fnExactIsTextUptoRow : OpenClaim := { program := "ytjoflkeiaoellaadoor", sum := "233f7b0acf3f9ba243fa8cec8121f7ecd91de919c88b5643d907ffb8ebb715c8", func := "loop.example/g01243/laws.FnExactIsText", spec := "fnExactIsText", inPlace := ["internal/bytealg.IndexByteString", "internal/bytealg.IndexString"], named := ["unicode/utf8.first", "unicode/utf8.acceptRanges", "internal/bytealg.MaxLen"], apart := false, laid := [("unicode/utf8.acceptRanges", laid_unicode_utf8_acceptRanges), ("unicode/utf8.first", laid_unicode_utf8_first)], narrowed := true }
def FnExactIsTextUptoSaid : Prop := fnExactIsTextUptoRow.holds Tryd.pinned (OpenSpec.upto fnExactIsTextSpec)

/-- 'laws.FnExactOccursAt', WHERE WHAT IT READS IS OF BULK AT MOST 1048576: true; the input reads as it did. -/
def fnExactOccursAtUptoRow : OpenClaim := { program := "ytjoflkeiaoellaadoor", sum := "233f7b0acf3f9ba243fa8cec8121f7ecd91de919c88b5643d907ffb8ebb715c8", func := "loop.example/g01243/laws.FnExactOccursAt", spec := "fnExactOccursAt", inPlace := ["internal/bytealg.IndexByteString", "internal/bytealg.IndexString"], named := ["unicode/utf8.first", "unicode/utf8.acceptRanges", "internal/bytealg.MaxLen"], apart := false, laid := [("unicode/utf8.acceptRanges", laid_unicode_utf8_acceptRanges), ("unicode/utf8.first", laid_unicode_utf8_first)], narrowed := true }
def FnExactOccursAtUptoSaid : Prop := fnExactOccursAtUptoRow.holds Tryd.pinned (OpenSpec.upto fnExactOccursAtSpec)

/-- 'laws.FnExactShortestAbsent', WHERE WHAT IT READS IS OF BULK AT MOST 1048576: true; the input reads as it did. -/
def fnExactShortestAbsentUptoRow : OpenClaim := { program := "ytjoflkeiaoellaadoor", sum := "233f7b0acf3f9ba243fa8cec8121f7ecd91de919c88b5643d907ffb8ebb715c8", func := "loop.example/g01243/laws.FnExactShortestAbsent", spec := "fnExactShortestAbsent", inPlace := ["internal/bytealg.IndexByteString", "internal/bytealg.IndexString"], named := ["unicode/utf8.first", "unicode/utf8.acceptRanges", "internal/bytealg.MaxLen"], apart := false, laid := [("unicode/utf8.acceptRanges", laid_unicode_utf8_acceptRanges), ("unicode/utf8.first", laid_unicode_utf8_first)], narrowed := true }
def FnExactShortestAbsentUptoSaid : Prop := fnExactShortestAbsentUptoRow.holds Tryd.pinned (OpenSpec.upto fnExactShortestAbsentSpec)

/-- 'laws.FnExactEndsOf', WHERE WHAT IT READS IS OF BULK AT MOST 1048576: true; the input reads as it did. -/
def fnExactEndsOfUptoRow : OpenClaim := { program := "ytjoflkeiaoellaadoor", sum := "233f7b0acf3f9ba243fa8cec8121f7ecd91de919c88b5643d907ffb8ebb715c8", func := "loop.example/g01243/laws.FnExactEndsOf", spec := "fnExactEndsOf", inPlace := ["internal/bytealg.IndexByteString", "internal/bytealg.IndexString", "internal/bytealg.abigen_runtime_cmpstring"], unfollowed := true, recurses := true, named := ["unicode/utf8.first", "unicode/utf8.acceptRanges", "internal/bytealg.MaxLen"], apart := false, laid := [("unicode/utf8.acceptRanges", laid_unicode_utf8_acceptRanges), ("unicode/utf8.first", laid_unicode_utf8_first)], narrowed := true }
def FnExactEndsOfUptoSaid : Prop := fnExactEndsOfUptoRow.holds Tryd.pinned (OpenSpec.upto fnExactEndsOfSpec)

/-- 'laws.FnExactCommonWithNext', WHERE WHAT IT READS IS OF BULK AT MOST 1048576: true; the input reads as it did. -/
def fnExactCommonWithNextUptoRow : OpenClaim := { program := "ytjoflkeiaoellaadoor", sum := "233f7b0acf3f9ba243fa8cec8121f7ecd91de919c88b5643d907ffb8ebb715c8", func := "loop.example/g01243/laws.FnExactCommonWithNext", spec := "fnExactCommonWithNext", inPlace := ["internal/bytealg.IndexByteString", "internal/bytealg.IndexString", "internal/bytealg.abigen_runtime_cmpstring"], unfollowed := true, recurses := true, named := ["unicode/utf8.first", "unicode/utf8.acceptRanges", "internal/bytealg.MaxLen"], apart := false, laid := [("unicode/utf8.acceptRanges", laid_unicode_utf8_acceptRanges), ("unicode/utf8.first", laid_unicode_utf8_first)], narrowed := true }
def FnExactCommonWithNextUptoSaid : Prop := fnExactCommonWithNextUptoRow.holds Tryd.pinned (OpenSpec.upto fnExactCommonWithNextSpec)

/-- 'laws.FnExactCountSubstrings', WHERE WHAT IT READS IS OF BULK AT MOST 1048576: true; the input reads as it did. -/
def fnExactCountSubstringsUptoRow : OpenClaim := { program := "ytjoflkeiaoellaadoor", sum := "233f7b0acf3f9ba243fa8cec8121f7ecd91de919c88b5643d907ffb8ebb715c8", func := "loop.example/g01243/laws.FnExactCountSubstrings", spec := "fnExactCountSubstrings", inPlace := ["internal/bytealg.IndexByteString", "internal/bytealg.IndexString"], unfollowed := true, recurses := true, named := ["unicode/utf8.first", "unicode/utf8.acceptRanges", "internal/bytealg.MaxLen"], apart := false, laid := [("unicode/utf8.acceptRanges", laid_unicode_utf8_acceptRanges), ("unicode/utf8.first", laid_unicode_utf8_first)], narrowed := true }
def FnExactCountSubstringsUptoSaid : Prop := fnExactCountSubstringsUptoRow.holds Tryd.pinned (OpenSpec.upto fnExactCountSubstringsSpec)

/-- 'laws.FnExactCountOfLength', WHERE WHAT IT READS IS OF BULK AT MOST 1048576: true; the input reads as it did. -/
def fnExactCountOfLengthUptoRow : OpenClaim := { program := "ytjoflkeiaoellaadoor", sum := "233f7b0acf3f9ba243fa8cec8121f7ecd91de919c88b5643d907ffb8ebb715c8", func := "loop.example/g01243/laws.FnExactCountOfLength", spec := "fnExactCountOfLength", inPlace := ["internal/bytealg.IndexByteString", "internal/bytealg.IndexString"], unfollowed := true, recurses := true, named := ["unicode/utf8.first", "unicode/utf8.acceptRanges", "internal/bytealg.MaxLen"], apart := false, laid := [("unicode/utf8.acceptRanges", laid_unicode_utf8_acceptRanges), ("unicode/utf8.first", laid_unicode_utf8_first)], narrowed := true }
def FnExactCountOfLengthUptoSaid : Prop := fnExactCountOfLengthUptoRow.holds Tryd.pinned (OpenSpec.upto fnExactCountOfLengthSpec)

/-- 'laws.FnExactSubstringsOf', WHERE WHAT IT READS IS OF BULK AT MOST 1048576: true; the input reads as it did. -/
def fnExactSubstringsOfUptoRow : OpenClaim := { program := "ytjoflkeiaoellaadoor", sum := "233f7b0acf3f9ba243fa8cec8121f7ecd91de919c88b5643d907ffb8ebb715c8", func := "loop.example/g01243/laws.FnExactSubstringsOf", spec := "fnExactSubstringsOf", inPlace := ["internal/bytealg.IndexByteString", "internal/bytealg.IndexString"], unfollowed := true, recurses := true, named := ["unicode/utf8.first", "unicode/utf8.acceptRanges", "internal/bytealg.MaxLen"], apart := false, laid := [("unicode/utf8.acceptRanges", laid_unicode_utf8_acceptRanges), ("unicode/utf8.first", laid_unicode_utf8_first)], narrowed := true }
def FnExactSubstringsOfUptoSaid : Prop := fnExactSubstringsOfUptoRow.holds Tryd.pinned (OpenSpec.upto fnExactSubstringsOfSpec)

/-- 'laws.FnExactShortestOnce', WHERE WHAT IT READS IS OF BULK AT MOST 1048576: true; the input reads as it did. -/
def fnExactShortestOnceUptoRow : OpenClaim := { program := "ytjoflkeiaoellaadoor", sum := "233f7b0acf3f9ba243fa8cec8121f7ecd91de919c88b5643d907ffb8ebb715c8", func := "loop.example/g01243/laws.FnExactShortestOnce", spec := "fnExactShortestOnce", inPlace := ["internal/bytealg.IndexByteString", "internal/bytealg.IndexString"], unfollowed := true, recurses := true, named := ["unicode/utf8.first", "unicode/utf8.acceptRanges", "internal/bytealg.MaxLen"], apart := false, laid := [("unicode/utf8.acceptRanges", laid_unicode_utf8_acceptRanges), ("unicode/utf8.first", laid_unicode_utf8_first)], narrowed := true }
def FnExactShortestOnceUptoSaid : Prop := fnExactShortestOnceUptoRow.holds Tryd.pinned (OpenSpec.upto fnExactShortestOnceSpec)

/-- 'laws.FnExactLongestRepeat', WHERE WHAT IT READS IS OF BULK AT MOST 1048576: true; the input reads as it did. -/
def fnExactLongestRepeatUptoRow : OpenClaim := { program := "ytjoflkeiaoellaadoor", sum := "233f7b0acf3f9ba243fa8cec8121f7ecd91de919c88b5643d907ffb8ebb715c8", func := "loop.example/g01243/laws.FnExactLongestRepeat", spec := "fnExactLongestRepeat", inPlace := ["internal/bytealg.IndexByteString", "internal/bytealg.IndexString"], unfollowed := true, recurses := true, named := ["unicode/utf8.first", "unicode/utf8.acceptRanges", "internal/bytealg.MaxLen"], apart := false, laid := [("unicode/utf8.acceptRanges", laid_unicode_utf8_acceptRanges), ("unicode/utf8.first", laid_unicode_utf8_first)], narrowed := true }
def FnExactLongestRepeatUptoSaid : Prop := fnExactLongestRepeatUptoRow.holds Tryd.pinned (OpenSpec.upto fnExactLongestRepeatSpec)

/-- 'laws.FnExactSquaresOf', WHERE WHAT IT READS IS OF BULK AT MOST 1048576: true; the input reads as it did. -/
def fnExactSquaresOfUptoRow : OpenClaim := { program := "ytjoflkeiaoellaadoor", sum := "233f7b0acf3f9ba243fa8cec8121f7ecd91de919c88b5643d907ffb8ebb715c8", func := "loop.example/g01243/laws.FnExactSquaresOf", spec := "fnExactSquaresOf", inPlace := ["internal/bytealg.IndexByteString", "internal/bytealg.IndexString"], unfollowed := true, recurses := true, named := ["unicode/utf8.first", "unicode/utf8.acceptRanges", "internal/bytealg.MaxLen"], apart := false, laid := [("unicode/utf8.acceptRanges", laid_unicode_utf8_acceptRanges), ("unicode/utf8.first", laid_unicode_utf8_first)], narrowed := true }
def FnExactSquaresOfUptoSaid : Prop := fnExactSquaresOfUptoRow.holds Tryd.pinned (OpenSpec.upto fnExactSquaresOfSpec)

/-- 'laws.FnExactTurnsBack', WHERE WHAT IT READS IS OF BULK AT MOST 1048576: true; the input reads as it did. -/
def fnExactTurnsBackUptoRow : OpenClaim := { program := "ytjoflkeiaoellaadoor", sum := "233f7b0acf3f9ba243fa8cec8121f7ecd91de919c88b5643d907ffb8ebb715c8", func := "loop.example/g01243/laws.FnExactTurnsBack", spec := "fnExactTurnsBack", inPlace := ["internal/bytealg.IndexByteString", "internal/bytealg.IndexString"], unfollowed := true, recurses := true, named := ["unicode/utf8.first", "unicode/utf8.acceptRanges", "internal/bytealg.MaxLen"], apart := false, laid := [("unicode/utf8.acceptRanges", laid_unicode_utf8_acceptRanges), ("unicode/utf8.first", laid_unicode_utf8_first)], narrowed := true }
def FnExactTurnsBackUptoSaid : Prop := fnExactTurnsBackUptoRow.holds Tryd.pinned (OpenSpec.upto fnExactTurnsBackSpec)

end Rows
end Go.Proofs.YtjoflkeiaoellaaDoor
