/-
  NARROWER THAN 'FOR EVERY INPUT', by the rows' own cells (each row's printed sentence says how): FnExactStepsTo: laid · FnExactOpenPressed: laid · FnExactPressedText: laid · FnExactAddPressed: laid · FnExactDropPressed: laid.
  DERIVED. THE GIVEN ROWS OF THIS SEAT. 5 by the template 'for every input the law returns true; each argument reads behind the call as it read before'; 0 by the template 'total and deterministic' (their statements: YtfhffcefpnkllaaGreatDoorTotals.lean).
  GIVEN WITH THE SEED: the statements are not yours to turn. If you find one false, say at which input.
  Laid BY PROGRAM, IN A SANDBOX (cutbox-rows.mjs): the forced cells as the released guide's own fill.sh prints them over the translation 9fcb7359bd8c1b0b… (all of the seat's roots in one cut). By AI agents, Wed Nov 11 2026. No macro, syntax, notation, axiom, sorry.
-/
import Derived.Test.YtfhffcefpnkllaaGreatDoorChecked
import GoSem.PinnedTables
import GoSem.Claim
import GoSem.ClaimJoined
import GoSem.ClaimMapViews
import Derived.JoinedTies
import Derived.KernelRfl
namespace Go.Proofs.YtfhffcefpnkllaaGreatDoor
/- THE CELL 'sum', in the pinned program and in every row, IS THE sha256 OF THE DUMP (.gsa) THAT YtfhffcefpnkllaaGreatDoorProg.lean LOADS. Nothing in Lean hashes anything: it is a label: what it is worth is what the hold of that sum in a sandbox is worth. -/
noncomputable def Tryz.pinned : Pinned := { name := "ytfhffcefpnkllaagreatdoor", sum := "9fcb7359bd8c1b0b451460b62c0c421e7c83810542db342086b0367eafeda160", checked := Tryz.checked }
namespace Rows
def none {H : Type} : Left H := { results := [], args := [] }

/- WHAT THE LISTED PACKAGE-LEVEL VARIABLES READ AS WHEN THE CALL BEGINS. Each datum BY PROGRAM (the guide's laid-datum.mjs) off the statement by which the dump's own 'gosem.cut.vars' lays the variable. In a bare row this is a premise. The card (YtfhffcefpnkllaaGreatDoorCards.lean) ties it to the program's text. -/
def laid_unicode_utf8_acceptRanges {H : Type} : DataW H := .agg [.agg [.lit (.int .u8 128), .lit (.int .u8 191)], .agg [.lit (.int .u8 160), .lit (.int .u8 191)], .agg [.lit (.int .u8 128), .lit (.int .u8 159)], .agg [.lit (.int .u8 144), .lit (.int .u8 191)], .agg [.lit (.int .u8 128), .lit (.int .u8 143)], .agg [.lit (.int .u8 0), .lit (.int .u8 0)], .agg [.lit (.int .u8 0), .lit (.int .u8 0)], .agg [.lit (.int .u8 0), .lit (.int .u8 0)], .agg [.lit (.int .u8 0), .lit (.int .u8 0)], .agg [.lit (.int .u8 0), .lit (.int .u8 0)], .agg [.lit (.int .u8 0), .lit (.int .u8 0)], .agg [.lit (.int .u8 0), .lit (.int .u8 0)], .agg [.lit (.int .u8 0), .lit (.int .u8 0)], .agg [.lit (.int .u8 0), .lit (.int .u8 0)], .agg [.lit (.int .u8 0), .lit (.int .u8 0)], .agg [.lit (.int .u8 0), .lit (.int .u8 0)]]
/-- One of Go's own tables, pinned by name: the form's constant. -/
def laid_unicode_utf8_first : DataW Unit := Go.Pinned.utf8First

/-- 'laws.FnExactStepsTo': WHATEVER THE INPUT: true; the input reads as it did. -/
def fnExactStepsToSpec : ChangeSpec := { name := "fnExactStepsTo", fn := fun _ => fun
  | [d1, d2] => { results := [.lit (.bool true)], args := [d1, d2] }
  | _ => none }
def fnExactStepsToRow : OpenClaim := { program := "ytfhffcefpnkllaagreatdoor", sum := "9fcb7359bd8c1b0b451460b62c0c421e7c83810542db342086b0367eafeda160", func := "loop.example/g01243/laws.FnExactStepsTo", spec := "fnExactStepsTo", inPlace := ["internal/bytealg.IndexByteString", "internal/bytealg.IndexString"], unfollowed := true, recurses := true, named := ["unicode/utf8.first", "unicode/utf8.acceptRanges", "internal/bytealg.MaxLen"], apart := false, laid := [("unicode/utf8.acceptRanges", laid_unicode_utf8_acceptRanges), ("unicode/utf8.first", laid_unicode_utf8_first)] }
def FnExactStepsToSaid : Prop := fnExactStepsToRow.holds Tryz.pinned (OpenSpec.ofChange fnExactStepsToSpec)

/-- ITS FALSE NEIGHBOUR: 'it returns false'. Refute it at one input. -/
def fnExactStepsToWrong : ChangeSpec := { name := "fnExactStepsTo", fn := fun _ => fun
  | [d1, d2] => { results := [.lit (.bool false)], args := [d1, d2] }
  | _ => none }
def FnExactStepsToWrongFalsely : Prop := fnExactStepsToRow.holds Tryz.pinned (OpenSpec.ofChange fnExactStepsToWrong)

/-- 'laws.FnExactOpenPressed': WHATEVER THE INPUT: true; the input reads as it did. -/
def fnExactOpenPressedSpec : ChangeSpec := { name := "fnExactOpenPressed", fn := fun _ => fun
  | [d] => { results := [.lit (.bool true)], args := [d] }
  | _ => none }
def fnExactOpenPressedRow : OpenClaim := { program := "ytfhffcefpnkllaagreatdoor", sum := "9fcb7359bd8c1b0b451460b62c0c421e7c83810542db342086b0367eafeda160", func := "loop.example/g01243/laws.FnExactOpenPressed", spec := "fnExactOpenPressed", inPlace := ["internal/bytealg.IndexByteString", "internal/bytealg.IndexString"], unfollowed := true, recurses := true, named := ["unicode/utf8.first", "unicode/utf8.acceptRanges", "internal/bytealg.MaxLen"], apart := false, laid := [("unicode/utf8.acceptRanges", laid_unicode_utf8_acceptRanges), ("unicode/utf8.first", laid_unicode_utf8_first)] }
def FnExactOpenPressedSaid : Prop := fnExactOpenPressedRow.holds Tryz.pinned (OpenSpec.ofChange fnExactOpenPressedSpec)

/-- ITS FALSE NEIGHBOUR: 'it returns false'. Refute it at one input. -/
def fnExactOpenPressedWrong : ChangeSpec := { name := "fnExactOpenPressed", fn := fun _ => fun
  | [d] => { results := [.lit (.bool false)], args := [d] }
  | _ => none }
def FnExactOpenPressedWrongFalsely : Prop := fnExactOpenPressedRow.holds Tryz.pinned (OpenSpec.ofChange fnExactOpenPressedWrong)

/-- 'laws.FnExactPressedText': WHATEVER THE INPUT: true; the input reads as it did. -/
def fnExactPressedTextSpec : ChangeSpec := { name := "fnExactPressedText", fn := fun _ => fun
  | [d] => { results := [.lit (.bool true)], args := [d] }
  | _ => none }
def fnExactPressedTextRow : OpenClaim := { program := "ytfhffcefpnkllaagreatdoor", sum := "9fcb7359bd8c1b0b451460b62c0c421e7c83810542db342086b0367eafeda160", func := "loop.example/g01243/laws.FnExactPressedText", spec := "fnExactPressedText", inPlace := ["internal/bytealg.IndexByteString", "internal/bytealg.IndexString", "internal/abi.NoEscape", "internal/bytealg.MakeNoZero"], unfollowed := true, recurses := true, named := ["unicode/utf8.first", "unicode/utf8.acceptRanges", "internal/bytealg.MaxLen"], apart := false, laid := [("unicode/utf8.acceptRanges", laid_unicode_utf8_acceptRanges), ("unicode/utf8.first", laid_unicode_utf8_first)] }
def FnExactPressedTextSaid : Prop := fnExactPressedTextRow.holds Tryz.pinned (OpenSpec.ofChange fnExactPressedTextSpec)

/-- ITS FALSE NEIGHBOUR: 'it returns false'. Refute it at one input. -/
def fnExactPressedTextWrong : ChangeSpec := { name := "fnExactPressedText", fn := fun _ => fun
  | [d] => { results := [.lit (.bool false)], args := [d] }
  | _ => none }
def FnExactPressedTextWrongFalsely : Prop := fnExactPressedTextRow.holds Tryz.pinned (OpenSpec.ofChange fnExactPressedTextWrong)

/-- 'laws.FnExactAddPressed': WHATEVER THE INPUT: true; the input reads as it did. -/
def fnExactAddPressedSpec : ChangeSpec := { name := "fnExactAddPressed", fn := fun _ => fun
  | [d1, d2] => { results := [.lit (.bool true)], args := [d1, d2] }
  | _ => none }
def fnExactAddPressedRow : OpenClaim := { program := "ytfhffcefpnkllaagreatdoor", sum := "9fcb7359bd8c1b0b451460b62c0c421e7c83810542db342086b0367eafeda160", func := "loop.example/g01243/laws.FnExactAddPressed", spec := "fnExactAddPressed", inPlace := ["internal/bytealg.IndexByteString", "internal/bytealg.IndexString"], unfollowed := true, recurses := true, named := ["unicode/utf8.first", "unicode/utf8.acceptRanges", "internal/bytealg.MaxLen"], apart := false, laid := [("unicode/utf8.acceptRanges", laid_unicode_utf8_acceptRanges), ("unicode/utf8.first", laid_unicode_utf8_first)] }
def FnExactAddPressedSaid : Prop := fnExactAddPressedRow.holds Tryz.pinned (OpenSpec.ofChange fnExactAddPressedSpec)

/-- ITS FALSE NEIGHBOUR: 'it returns false'. Refute it at one input. -/
def fnExactAddPressedWrong : ChangeSpec := { name := "fnExactAddPressed", fn := fun _ => fun
  | [d1, d2] => { results := [.lit (.bool false)], args := [d1, d2] }
  | _ => none }
def FnExactAddPressedWrongFalsely : Prop := fnExactAddPressedRow.holds Tryz.pinned (OpenSpec.ofChange fnExactAddPressedWrong)

/-- 'laws.FnExactDropPressed': WHATEVER THE INPUT: true; the input reads as it did. -/
def fnExactDropPressedSpec : ChangeSpec := { name := "fnExactDropPressed", fn := fun _ => fun
  | [d1, d2] => { results := [.lit (.bool true)], args := [d1, d2] }
  | _ => none }
def fnExactDropPressedRow : OpenClaim := { program := "ytfhffcefpnkllaagreatdoor", sum := "9fcb7359bd8c1b0b451460b62c0c421e7c83810542db342086b0367eafeda160", func := "loop.example/g01243/laws.FnExactDropPressed", spec := "fnExactDropPressed", inPlace := ["internal/bytealg.IndexByteString", "internal/bytealg.IndexString"], unfollowed := true, recurses := true, named := ["unicode/utf8.first", "unicode/utf8.acceptRanges", "internal/bytealg.MaxLen"], apart := false, laid := [("unicode/utf8.acceptRanges", laid_unicode_utf8_acceptRanges), ("unicode/utf8.first", laid_unicode_utf8_first)] }
def FnExactDropPressedSaid : Prop := fnExactDropPressedRow.holds Tryz.pinned (OpenSpec.ofChange fnExactDropPressedSpec)

/-- ITS FALSE NEIGHBOUR: 'it returns false'. Refute it at one input. -/
def fnExactDropPressedWrong : ChangeSpec := { name := "fnExactDropPressed", fn := fun _ => fun
  | [d1, d2] => { results := [.lit (.bool false)], args := [d1, d2] }
  | _ => none }
def FnExactDropPressedWrongFalsely : Prop := fnExactDropPressedRow.holds Tryz.pinned (OpenSpec.ofChange fnExactDropPressedWrong)

/- THE SECOND FORM. 'bulk': how many values and letters a reading holds, each counted each time it is reached (what is shared counts as often as it is met; a slice's spare places count too). A statement '..UptoSaid' is the law's where the arguments, and the package variables that the reading takes, are together of bulk at most 1048576: NARROWER than '..Said'. Prove '..Said' where nothing that the law and all that it calls make is longer than what came in: it says more and counts as full. Else prove '..UptoSaid'. A law counts once. -/
mutual
def uptoBulk {H : Type} : DataW H → Nat
  | .lit (.string bytes) => bytes.length + 1
  | .lit _ => 1
  | .nil => 1
  | .ptr d => uptoBulk d + 1
  | .slice elems spare => uptoBulkAll elems + uptoBulkAll spare + 1
  | .agg parts => uptoBulkAll parts + 1
  | .iface _ d => uptoBulk d + 1
  | .map entries => uptoBulkEntries entries + 1
  | .held _ => 1
def uptoBulkAll {H : Type} : List (DataW H) → Nat
  | [] => 0
  | d :: r => uptoBulk d + uptoBulkAll r
def uptoBulkEntries {H : Type} : List (Lit × DataW H) → Nat
  | [] => 0
  | x :: r => uptoBulkEntry x + uptoBulkEntries r
def uptoBulkEntry {H : Type} : Lit × DataW H → Nat
  | (.string bytes, d) => bytes.length + uptoBulk d + 1
  | (_, d) => uptoBulk d + 1
 end
def uptoSmall : (H : Type) → List (DataW H) → Bool := fun _ ds => decide (uptoBulkAll ds ≤ 1048576)
def OpenSpec.upto (s : _root_.Go.ChangeSpec) : _root_.Go.OpenSpec := { _root_.Go.OpenSpec.ofChange s with cond := some uptoSmall }

/-- 'laws.FnExactStepsTo', WHERE WHAT IT READS IS OF BULK AT MOST 1048576: true; the input reads as it did. -/
def fnExactStepsToUptoRow : OpenClaim := { program := "ytfhffcefpnkllaagreatdoor", sum := "9fcb7359bd8c1b0b451460b62c0c421e7c83810542db342086b0367eafeda160", func := "loop.example/g01243/laws.FnExactStepsTo", spec := "fnExactStepsTo", inPlace := ["internal/bytealg.IndexByteString", "internal/bytealg.IndexString"], unfollowed := true, recurses := true, named := ["unicode/utf8.first", "unicode/utf8.acceptRanges", "internal/bytealg.MaxLen"], apart := false, laid := [("unicode/utf8.acceptRanges", laid_unicode_utf8_acceptRanges), ("unicode/utf8.first", laid_unicode_utf8_first)], narrowed := true }
def FnExactStepsToUptoSaid : Prop := fnExactStepsToUptoRow.holds Tryz.pinned (OpenSpec.upto fnExactStepsToSpec)

/-- 'laws.FnExactOpenPressed', WHERE WHAT IT READS IS OF BULK AT MOST 1048576: true; the input reads as it did. -/
def fnExactOpenPressedUptoRow : OpenClaim := { program := "ytfhffcefpnkllaagreatdoor", sum := "9fcb7359bd8c1b0b451460b62c0c421e7c83810542db342086b0367eafeda160", func := "loop.example/g01243/laws.FnExactOpenPressed", spec := "fnExactOpenPressed", inPlace := ["internal/bytealg.IndexByteString", "internal/bytealg.IndexString"], unfollowed := true, recurses := true, named := ["unicode/utf8.first", "unicode/utf8.acceptRanges", "internal/bytealg.MaxLen"], apart := false, laid := [("unicode/utf8.acceptRanges", laid_unicode_utf8_acceptRanges), ("unicode/utf8.first", laid_unicode_utf8_first)], narrowed := true }
def FnExactOpenPressedUptoSaid : Prop := fnExactOpenPressedUptoRow.holds Tryz.pinned (OpenSpec.upto fnExactOpenPressedSpec)

/-- 'laws.FnExactPressedText', WHERE WHAT IT READS IS OF BULK AT MOST 1048576: true; the input reads as it did. -/
def fnExactPressedTextUptoRow : OpenClaim := { program := "ytfhffcefpnkllaagreatdoor", sum := "9fcb7359bd8c1b0b451460b62c0c421e7c83810542db342086b0367eafeda160", func := "loop.example/g01243/laws.FnExactPressedText", spec := "fnExactPressedText", inPlace := ["internal/bytealg.IndexByteString", "internal/bytealg.IndexString", "internal/abi.NoEscape", "internal/bytealg.MakeNoZero"], unfollowed := true, recurses := true, named := ["unicode/utf8.first", "unicode/utf8.acceptRanges", "internal/bytealg.MaxLen"], apart := false, laid := [("unicode/utf8.acceptRanges", laid_unicode_utf8_acceptRanges), ("unicode/utf8.first", laid_unicode_utf8_first)], narrowed := true }
def FnExactPressedTextUptoSaid : Prop := fnExactPressedTextUptoRow.holds Tryz.pinned (OpenSpec.upto fnExactPressedTextSpec)

/-- 'laws.FnExactAddPressed', WHERE WHAT IT READS IS OF BULK AT MOST 1048576: true; the input reads as it did. -/
def fnExactAddPressedUptoRow : OpenClaim := { program := "ytfhffcefpnkllaagreatdoor", sum := "9fcb7359bd8c1b0b451460b62c0c421e7c83810542db342086b0367eafeda160", func := "loop.example/g01243/laws.FnExactAddPressed", spec := "fnExactAddPressed", inPlace := ["internal/bytealg.IndexByteString", "internal/bytealg.IndexString"], unfollowed := true, recurses := true, named := ["unicode/utf8.first", "unicode/utf8.acceptRanges", "internal/bytealg.MaxLen"], apart := false, laid := [("unicode/utf8.acceptRanges", laid_unicode_utf8_acceptRanges), ("unicode/utf8.first", laid_unicode_utf8_first)], narrowed := true }
def FnExactAddPressedUptoSaid : Prop := fnExactAddPressedUptoRow.holds Tryz.pinned (OpenSpec.upto fnExactAddPressedSpec)

/-- 'laws.FnExactDropPressed', WHERE WHAT IT READS IS OF BULK AT MOST 1048576: true; the input reads as it did. -/
def fnExactDropPressedUptoRow : OpenClaim := { program := "ytfhffcefpnkllaagreatdoor", sum := "9fcb7359bd8c1b0b451460b62c0c421e7c83810542db342086b0367eafeda160", func := "loop.example/g01243/laws.FnExactDropPressed", spec := "fnExactDropPressed", inPlace := ["internal/bytealg.IndexByteString", "internal/bytealg.IndexString"], unfollowed := true, recurses := true, named := ["unicode/utf8.first", "unicode/utf8.acceptRanges", "internal/bytealg.MaxLen"], apart := false, laid := [("unicode/utf8.acceptRanges", laid_unicode_utf8_acceptRanges), ("unicode/utf8.first", laid_unicode_utf8_first)], narrowed := true }
def FnExactDropPressedUptoSaid : Prop := fnExactDropPressedUptoRow.holds Tryz.pinned (OpenSpec.upto fnExactDropPressedSpec)

end Rows
end Go.Proofs.YtfhffcefpnkllaaGreatDoor
