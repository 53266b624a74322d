/-
  NARROWER THAN 'FOR EVERY INPUT', by the rows' own cells (each row's printed sentence says how): FnExactIsPressed: laid · FnExactBranchPrefix: laid · FnExactCountLetters: laid · FnExactLongestBranch: laid · FnExactBranchOf: laid.
  DERIVED. THE GIVEN ROWS OF THIS SEAT. 5 by the template 'for every input the law returns true; each argument reads behind the call as it read before'; 0 by the template 'total and deterministic' (their statements: YtfhffcefpnkllaaDoorTotals.lean).
  GIVEN WITH THE SEED: the statements are not yours to turn. If you find one false, say at which input.
  Laid BY PROGRAM, IN A SANDBOX (cutbox-rows.mjs): the forced cells as the released guide's own fill.sh prints them over the translation ea7324d0e11cc3b4… (all of the seat's roots in one cut). By AI agents, Wed Nov 11 2026. No macro, syntax, notation, axiom, sorry.
-/
import Derived.Test.YtfhffcefpnkllaaDoorChecked
import GoSem.PinnedTables
import GoSem.Claim
import GoSem.ClaimJoined
import GoSem.ClaimMapViews
import Derived.JoinedTies
import Derived.KernelRfl
namespace Go.Proofs.YtfhffcefpnkllaaDoor
/- THE CELL 'sum', in the pinned program and in every row, IS THE sha256 OF THE DUMP (.gsa) THAT YtfhffcefpnkllaaDoorProg.lean LOADS. Nothing in Lean hashes anything: it is a label: what it is worth is what the hold of that sum in a sandbox is worth. -/
noncomputable def Tryd.pinned : Pinned := { name := "ytfhffcefpnkllaadoor", sum := "ea7324d0e11cc3b43dc1374bb0a590e42a34b6b5e0bd4cba48f28607bd91ea7a", checked := Tryd.checked }
namespace Rows
def none {H : Type} : Left H := { results := [], args := [] }

/- WHAT THE LISTED PACKAGE-LEVEL VARIABLES READ AS WHEN THE CALL BEGINS. Each datum BY PROGRAM (the guide's laid-datum.mjs) off the statement by which the dump's own 'gosem.cut.vars' lays the variable. In a bare row this is a premise. The card (YtfhffcefpnkllaaDoorCards.lean) ties it to the program's text. -/
def laid_unicode_utf8_acceptRanges {H : Type} : DataW H := .agg [.agg [.lit (.int .u8 128), .lit (.int .u8 191)], .agg [.lit (.int .u8 160), .lit (.int .u8 191)], .agg [.lit (.int .u8 128), .lit (.int .u8 159)], .agg [.lit (.int .u8 144), .lit (.int .u8 191)], .agg [.lit (.int .u8 128), .lit (.int .u8 143)], .agg [.lit (.int .u8 0), .lit (.int .u8 0)], .agg [.lit (.int .u8 0), .lit (.int .u8 0)], .agg [.lit (.int .u8 0), .lit (.int .u8 0)], .agg [.lit (.int .u8 0), .lit (.int .u8 0)], .agg [.lit (.int .u8 0), .lit (.int .u8 0)], .agg [.lit (.int .u8 0), .lit (.int .u8 0)], .agg [.lit (.int .u8 0), .lit (.int .u8 0)], .agg [.lit (.int .u8 0), .lit (.int .u8 0)], .agg [.lit (.int .u8 0), .lit (.int .u8 0)], .agg [.lit (.int .u8 0), .lit (.int .u8 0)], .agg [.lit (.int .u8 0), .lit (.int .u8 0)]]
/-- One of Go's own tables, pinned by name: the form's constant. -/
def laid_unicode_utf8_first : DataW Unit := Go.Pinned.utf8First

/-- 'laws.FnExactIsPressed': WHATEVER THE INPUT: true; the input reads as it did. -/
def fnExactIsPressedSpec : ChangeSpec := { name := "fnExactIsPressed", fn := fun _ => fun
  | [d] => { results := [.lit (.bool true)], args := [d] }
  | _ => none }
def fnExactIsPressedRow : OpenClaim := { program := "ytfhffcefpnkllaadoor", sum := "ea7324d0e11cc3b43dc1374bb0a590e42a34b6b5e0bd4cba48f28607bd91ea7a", func := "loop.example/g01243/laws.FnExactIsPressed", spec := "fnExactIsPressed", inPlace := ["internal/bytealg.IndexByteString", "internal/bytealg.IndexString"], unfollowed := true, recurses := true, named := ["unicode/utf8.first", "unicode/utf8.acceptRanges", "internal/bytealg.MaxLen"], apart := false, laid := [("unicode/utf8.acceptRanges", laid_unicode_utf8_acceptRanges), ("unicode/utf8.first", laid_unicode_utf8_first)] }
def FnExactIsPressedSaid : Prop := fnExactIsPressedRow.holds Tryd.pinned (OpenSpec.ofChange fnExactIsPressedSpec)

/-- ITS FALSE NEIGHBOUR: 'it returns false'. Refute it at one input. -/
def fnExactIsPressedWrong : ChangeSpec := { name := "fnExactIsPressed", fn := fun _ => fun
  | [d] => { results := [.lit (.bool false)], args := [d] }
  | _ => none }
def FnExactIsPressedWrongFalsely : Prop := fnExactIsPressedRow.holds Tryd.pinned (OpenSpec.ofChange fnExactIsPressedWrong)

/-- 'laws.FnExactBranchPrefix': WHATEVER THE INPUT: true; the input reads as it did. -/
def fnExactBranchPrefixSpec : ChangeSpec := { name := "fnExactBranchPrefix", fn := fun _ => fun
  | [d1, d2] => { results := [.lit (.bool true)], args := [d1, d2] }
  | _ => none }
def fnExactBranchPrefixRow : OpenClaim := { program := "ytfhffcefpnkllaadoor", sum := "ea7324d0e11cc3b43dc1374bb0a590e42a34b6b5e0bd4cba48f28607bd91ea7a", func := "loop.example/g01243/laws.FnExactBranchPrefix", spec := "fnExactBranchPrefix", inPlace := ["internal/bytealg.IndexByteString", "internal/bytealg.IndexString"], unfollowed := true, recurses := true, named := ["unicode/utf8.first", "unicode/utf8.acceptRanges", "internal/bytealg.MaxLen"], apart := false, laid := [("unicode/utf8.acceptRanges", laid_unicode_utf8_acceptRanges), ("unicode/utf8.first", laid_unicode_utf8_first)] }
def FnExactBranchPrefixSaid : Prop := fnExactBranchPrefixRow.holds Tryd.pinned (OpenSpec.ofChange fnExactBranchPrefixSpec)

/-- ITS FALSE NEIGHBOUR: 'it returns false'. Refute it at one input. -/
def fnExactBranchPrefixWrong : ChangeSpec := { name := "fnExactBranchPrefix", fn := fun _ => fun
  | [d1, d2] => { results := [.lit (.bool false)], args := [d1, d2] }
  | _ => none }
def FnExactBranchPrefixWrongFalsely : Prop := fnExactBranchPrefixRow.holds Tryd.pinned (OpenSpec.ofChange fnExactBranchPrefixWrong)

/-- 'laws.FnExactCountLetters': WHATEVER THE INPUT: true; the input reads as it did. -/
def fnExactCountLettersSpec : ChangeSpec := { name := "fnExactCountLetters", fn := fun _ => fun
  | [d] => { results := [.lit (.bool true)], args := [d] }
  | _ => none }
def fnExactCountLettersRow : OpenClaim := { program := "ytfhffcefpnkllaadoor", sum := "ea7324d0e11cc3b43dc1374bb0a590e42a34b6b5e0bd4cba48f28607bd91ea7a", func := "loop.example/g01243/laws.FnExactCountLetters", spec := "fnExactCountLetters", inPlace := ["internal/bytealg.IndexByteString", "internal/bytealg.IndexString"], unfollowed := true, recurses := true, named := ["unicode/utf8.first", "unicode/utf8.acceptRanges", "internal/bytealg.MaxLen"], apart := false, laid := [("unicode/utf8.acceptRanges", laid_unicode_utf8_acceptRanges), ("unicode/utf8.first", laid_unicode_utf8_first)] }
def FnExactCountLettersSaid : Prop := fnExactCountLettersRow.holds Tryd.pinned (OpenSpec.ofChange fnExactCountLettersSpec)

/-- ITS FALSE NEIGHBOUR: 'it returns false'. Refute it at one input. -/
def fnExactCountLettersWrong : ChangeSpec := { name := "fnExactCountLetters", fn := fun _ => fun
  | [d] => { results := [.lit (.bool false)], args := [d] }
  | _ => none }
def FnExactCountLettersWrongFalsely : Prop := fnExactCountLettersRow.holds Tryd.pinned (OpenSpec.ofChange fnExactCountLettersWrong)

/-- 'laws.FnExactLongestBranch': WHATEVER THE INPUT: true; the input reads as it did. -/
def fnExactLongestBranchSpec : ChangeSpec := { name := "fnExactLongestBranch", fn := fun _ => fun
  | [d] => { results := [.lit (.bool true)], args := [d] }
  | _ => none }
def fnExactLongestBranchRow : OpenClaim := { program := "ytfhffcefpnkllaadoor", sum := "ea7324d0e11cc3b43dc1374bb0a590e42a34b6b5e0bd4cba48f28607bd91ea7a", func := "loop.example/g01243/laws.FnExactLongestBranch", spec := "fnExactLongestBranch", inPlace := ["internal/bytealg.IndexByteString", "internal/bytealg.IndexString"], unfollowed := true, recurses := true, named := ["unicode/utf8.first", "unicode/utf8.acceptRanges", "internal/bytealg.MaxLen"], apart := false, laid := [("unicode/utf8.acceptRanges", laid_unicode_utf8_acceptRanges), ("unicode/utf8.first", laid_unicode_utf8_first)] }
def FnExactLongestBranchSaid : Prop := fnExactLongestBranchRow.holds Tryd.pinned (OpenSpec.ofChange fnExactLongestBranchSpec)

/-- ITS FALSE NEIGHBOUR: 'it returns false'. Refute it at one input. -/
def fnExactLongestBranchWrong : ChangeSpec := { name := "fnExactLongestBranch", fn := fun _ => fun
  | [d] => { results := [.lit (.bool false)], args := [d] }
  | _ => none }
def FnExactLongestBranchWrongFalsely : Prop := fnExactLongestBranchRow.holds Tryd.pinned (OpenSpec.ofChange fnExactLongestBranchWrong)

/-- 'laws.FnExactBranchOf': WHATEVER THE INPUT: true; the input reads as it did. -/
def fnExactBranchOfSpec : ChangeSpec := { name := "fnExactBranchOf", fn := fun _ => fun
  | [d1, d2] => { results := [.lit (.bool true)], args := [d1, d2] }
  | _ => none }
def fnExactBranchOfRow : OpenClaim := { program := "ytfhffcefpnkllaadoor", sum := "ea7324d0e11cc3b43dc1374bb0a590e42a34b6b5e0bd4cba48f28607bd91ea7a", func := "loop.example/g01243/laws.FnExactBranchOf", spec := "fnExactBranchOf", inPlace := ["internal/bytealg.IndexByteString", "internal/bytealg.IndexString"], unfollowed := true, recurses := true, named := ["unicode/utf8.first", "unicode/utf8.acceptRanges", "internal/bytealg.MaxLen"], apart := false, laid := [("unicode/utf8.acceptRanges", laid_unicode_utf8_acceptRanges), ("unicode/utf8.first", laid_unicode_utf8_first)] }
def FnExactBranchOfSaid : Prop := fnExactBranchOfRow.holds Tryd.pinned (OpenSpec.ofChange fnExactBranchOfSpec)

/-- ITS FALSE NEIGHBOUR: 'it returns false'. Refute it at one input. -/
def fnExactBranchOfWrong : ChangeSpec := { name := "fnExactBranchOf", fn := fun _ => fun
  | [d1, d2] => { results := [.lit (.bool false)], args := [d1, d2] }
  | _ => none }
def FnExactBranchOfWrongFalsely : Prop := fnExactBranchOfRow.holds Tryd.pinned (OpenSpec.ofChange fnExactBranchOfWrong)

/- THE SECOND FORM. 'bulk': how many values and letters a reading holds, each counted each time it is reached (what is shared counts as often as it is met; a slice's spare places count too). A statement '..UptoSaid' is the law's where the arguments, and the package variables that the reading takes, are together of bulk at most 1048576: NARROWER than '..Said'. Prove '..Said' where nothing that the law and all that it calls make is longer than what came in: it says more and counts as full. Else prove '..UptoSaid'. A law counts once. -/
mutual
def uptoBulk {H : Type} : DataW H → Nat
  | .lit (.string bytes) => bytes.length + 1
  | .lit _ => 1
  | .nil => 1
  | .ptr d => uptoBulk d + 1
  | .slice elems spare => uptoBulkAll elems + uptoBulkAll spare + 1
  | .agg parts => uptoBulkAll parts + 1
  | .iface _ d => uptoBulk d + 1
  | .map entries => uptoBulkEntries entries + 1
  | .held _ => 1
def uptoBulkAll {H : Type} : List (DataW H) → Nat
  | [] => 0
  | d :: r => uptoBulk d + uptoBulkAll r
def uptoBulkEntries {H : Type} : List (Lit × DataW H) → Nat
  | [] => 0
  | x :: r => uptoBulkEntry x + uptoBulkEntries r
def uptoBulkEntry {H : Type} : Lit × DataW H → Nat
  | (.string bytes, d) => bytes.length + uptoBulk d + 1
  | (_, d) => uptoBulk d + 1
 end
def uptoSmall : (H : Type) → List (DataW H) → Bool := fun _ ds => decide (uptoBulkAll ds ≤ 1048576)
def OpenSpec.upto (s : _root_.Go.ChangeSpec) : _root_.Go.OpenSpec := { _root_.Go.OpenSpec.ofChange s with cond := some uptoSmall }

/-- 'laws.FnExactIsPressed', WHERE WHAT IT READS IS OF BULK AT MOST 1048576: true; the input reads as it did. -/
def fnExactIsPressedUptoRow : OpenClaim := { program := "ytfhffcefpnkllaadoor", sum := "ea7324d0e11cc3b43dc1374bb0a590e42a34b6b5e0bd4cba48f28607bd91ea7a", func := "loop.example/g01243/laws.FnExactIsPressed", spec := "fnExactIsPressed", inPlace := ["internal/bytealg.IndexByteString", "internal/bytealg.IndexString"], unfollowed := true, recurses := true, named := ["unicode/utf8.first", "unicode/utf8.acceptRanges", "internal/bytealg.MaxLen"], apart := false, laid := [("unicode/utf8.acceptRanges", laid_unicode_utf8_acceptRanges), ("unicode/utf8.first", laid_unicode_utf8_first)], narrowed := true }
def FnExactIsPressedUptoSaid : Prop := fnExactIsPressedUptoRow.holds Tryd.pinned (OpenSpec.upto fnExactIsPressedSpec)

/-- 'laws.FnExactBranchPrefix', WHERE WHAT IT READS IS OF BULK AT MOST 1048576: true; the input reads as it did. -/
def fnExactBranchPrefixUptoRow : OpenClaim := { program := "ytfhffcefpnkllaadoor", sum := "ea7324d0e11cc3b43dc1374bb0a590e42a34b6b5e0bd4cba48f28607bd91ea7a", func := "loop.example/g01243/laws.FnExactBranchPrefix", spec := "fnExactBranchPrefix", inPlace := ["internal/bytealg.IndexByteString", "internal/bytealg.IndexString"], unfollowed := true, recurses := true, named := ["unicode/utf8.first", "unicode/utf8.acceptRanges", "internal/bytealg.MaxLen"], apart := false, laid := [("unicode/utf8.acceptRanges", laid_unicode_utf8_acceptRanges), ("unicode/utf8.first", laid_unicode_utf8_first)], narrowed := true }
def FnExactBranchPrefixUptoSaid : Prop := fnExactBranchPrefixUptoRow.holds Tryd.pinned (OpenSpec.upto fnExactBranchPrefixSpec)

/-- 'laws.FnExactCountLetters', WHERE WHAT IT READS IS OF BULK AT MOST 1048576: true; the input reads as it did. -/
def fnExactCountLettersUptoRow : OpenClaim := { program := "ytfhffcefpnkllaadoor", sum := "ea7324d0e11cc3b43dc1374bb0a590e42a34b6b5e0bd4cba48f28607bd91ea7a", func := "loop.example/g01243/laws.FnExactCountLetters", spec := "fnExactCountLetters", inPlace := ["internal/bytealg.IndexByteString", "internal/bytealg.IndexString"], unfollowed := true, recurses := true, named := ["unicode/utf8.first", "unicode/utf8.acceptRanges", "internal/bytealg.MaxLen"], apart := false, laid := [("unicode/utf8.acceptRanges", laid_unicode_utf8_acceptRanges), ("unicode/utf8.first", laid_unicode_utf8_first)], narrowed := true }
def FnExactCountLettersUptoSaid : Prop := fnExactCountLettersUptoRow.holds Tryd.pinned (OpenSpec.upto fnExactCountLettersSpec)

/-- 'laws.FnExactLongestBranch', WHERE WHAT IT READS IS OF BULK AT MOST 1048576: true; the input reads as it did. -/
def fnExactLongestBranchUptoRow : OpenClaim := { program := "ytfhffcefpnkllaadoor", sum := "ea7324d0e11cc3b43dc1374bb0a590e42a34b6b5e0bd4cba48f28607bd91ea7a", func := "loop.example/g01243/laws.FnExactLongestBranch", spec := "fnExactLongestBranch", inPlace := ["internal/bytealg.IndexByteString", "internal/bytealg.IndexString"], unfollowed := true, recurses := true, named := ["unicode/utf8.first", "unicode/utf8.acceptRanges", "internal/bytealg.MaxLen"], apart := false, laid := [("unicode/utf8.acceptRanges", laid_unicode_utf8_acceptRanges), ("unicode/utf8.first", laid_unicode_utf8_first)], narrowed := true }
def FnExactLongestBranchUptoSaid : Prop := fnExactLongestBranchUptoRow.holds Tryd.pinned (OpenSpec.upto fnExactLongestBranchSpec)

/-- 'laws.FnExactBranchOf', WHERE WHAT IT READS IS OF BULK AT MOST 1048576: true; the input reads as it did. -/
def fnExactBranchOfUptoRow : OpenClaim := { program := "ytfhffcefpnkllaadoor", sum := "ea7324d0e11cc3b43dc1374bb0a590e42a34b6b5e0bd4cba48f28607bd91ea7a", func := "loop.example/g01243/laws.FnExactBranchOf", spec := "fnExactBranchOf", inPlace := ["internal/bytealg.IndexByteString", "internal/bytealg.IndexString"], unfollowed := true, recurses := true, named := ["unicode/utf8.first", "unicode/utf8.acceptRanges", "internal/bytealg.MaxLen"], apart := false, laid := [("unicode/utf8.acceptRanges", laid_unicode_utf8_acceptRanges), ("unicode/utf8.first", laid_unicode_utf8_first)], narrowed := true }
def FnExactBranchOfUptoSaid : Prop := fnExactBranchOfUptoRow.holds Tryd.pinned (OpenSpec.upto fnExactBranchOfSpec)

end Rows
end Go.Proofs.YtfhffcefpnkllaaDoor
