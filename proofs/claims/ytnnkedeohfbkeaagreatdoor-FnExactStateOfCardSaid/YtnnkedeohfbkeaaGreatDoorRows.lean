/-
  NARROWER THAN 'FOR EVERY INPUT', by the rows' own cells (each row's printed sentence says how): FnExactTrieOfMachine: laid · FnExactIsMachine: laid · FnExactCountEdges: laid · FnExactDoesTake: laid · FnExactWordNumbered: laid · FnExactLevelOf: laid · FnExactNumberOf: laid · FnExactStateOf: laid · FnExactBehindState: laid · FnExactJoiningStates: laid.
  DERIVED. THE GIVEN ROWS OF THIS SEAT. 10 by the template 'for every input the law returns true; each argument reads behind the call as it read before'; 0 by the template 'total and deterministic' (their statements: YtnnkedeohfbkeaaGreatDoorTotals.lean).
  GIVEN WITH THE SEED: the statements are not yours to turn. If you find one false, say at which input.
  Laid BY PROGRAM, IN A SANDBOX (cutbox-rows.mjs): the forced cells as the released guide's own fill.sh prints them over the translation e24c6caa0ff89291… (all of the seat's roots in one cut). By AI agents, Wed Nov 11 2026. No macro, syntax, notation, axiom, sorry.
-/
import Derived.Test.YtnnkedeohfbkeaaGreatDoorChecked
import GoSem.PinnedTables
import GoSem.Claim
import GoSem.ClaimJoined
import GoSem.ClaimMapViews
import Derived.JoinedTies
import Derived.KernelRfl
namespace Go.Proofs.YtnnkedeohfbkeaaGreatDoor
/- THE CELL 'sum', in the pinned program and in every row, IS THE sha256 OF THE DUMP (.gsa) THAT YtnnkedeohfbkeaaGreatDoorProg.lean LOADS. Nothing in Lean hashes anything: it is a label: what it is worth is what the hold of that sum in a sandbox is worth. -/
noncomputable def Tryz.pinned : Pinned := { name := "ytnnkedeohfbkeaagreatdoor", sum := "e24c6caa0ff89291210bd272a1b4ef91629e3b4bac207294db27d8c3201bc1dc", checked := Tryz.checked }
namespace Rows
def none {H : Type} : Left H := { results := [], args := [] }

/- WHAT THE LISTED PACKAGE-LEVEL VARIABLES READ AS WHEN THE CALL BEGINS. Each datum BY PROGRAM (the guide's laid-datum.mjs) off the statement by which the dump's own 'gosem.cut.vars' lays the variable. In a bare row this is a premise. The card (YtnnkedeohfbkeaaGreatDoorCards.lean) ties it to the program's text. -/
def laid_unicode_utf8_acceptRanges {H : Type} : DataW H := .agg [.agg [.lit (.int .u8 128), .lit (.int .u8 191)], .agg [.lit (.int .u8 160), .lit (.int .u8 191)], .agg [.lit (.int .u8 128), .lit (.int .u8 159)], .agg [.lit (.int .u8 144), .lit (.int .u8 191)], .agg [.lit (.int .u8 128), .lit (.int .u8 143)], .agg [.lit (.int .u8 0), .lit (.int .u8 0)], .agg [.lit (.int .u8 0), .lit (.int .u8 0)], .agg [.lit (.int .u8 0), .lit (.int .u8 0)], .agg [.lit (.int .u8 0), .lit (.int .u8 0)], .agg [.lit (.int .u8 0), .lit (.int .u8 0)], .agg [.lit (.int .u8 0), .lit (.int .u8 0)], .agg [.lit (.int .u8 0), .lit (.int .u8 0)], .agg [.lit (.int .u8 0), .lit (.int .u8 0)], .agg [.lit (.int .u8 0), .lit (.int .u8 0)], .agg [.lit (.int .u8 0), .lit (.int .u8 0)], .agg [.lit (.int .u8 0), .lit (.int .u8 0)]]
/-- One of Go's own tables, pinned by name: the form's constant. -/
def laid_unicode_utf8_first : DataW Unit := Go.Pinned.utf8First

/-- 'laws.FnExactTrieOfMachine': WHATEVER THE INPUT: true; the input reads as it did. -/
def fnExactTrieOfMachineSpec : ChangeSpec := { name := "fnExactTrieOfMachine", fn := fun _ => fun
  | [d] => { results := [.lit (.bool true)], args := [d] }
  | _ => none }
def fnExactTrieOfMachineRow : OpenClaim := { program := "ytnnkedeohfbkeaagreatdoor", sum := "e24c6caa0ff89291210bd272a1b4ef91629e3b4bac207294db27d8c3201bc1dc", func := "loop.example/g01243/laws.FnExactTrieOfMachine", spec := "fnExactTrieOfMachine", inPlace := ["internal/bytealg.IndexByteString", "internal/bytealg.IndexString"], unfollowed := true, recurses := true, named := ["unicode/utf8.first", "unicode/utf8.acceptRanges", "internal/bytealg.MaxLen"], apart := false, laid := [("unicode/utf8.acceptRanges", laid_unicode_utf8_acceptRanges), ("unicode/utf8.first", laid_unicode_utf8_first)] }
def FnExactTrieOfMachineSaid : Prop := fnExactTrieOfMachineRow.holds Tryz.pinned (OpenSpec.ofChange fnExactTrieOfMachineSpec)

/-- ITS FALSE NEIGHBOUR: 'it returns false'. Refute it at one input. -/
def fnExactTrieOfMachineWrong : ChangeSpec := { name := "fnExactTrieOfMachine", fn := fun _ => fun
  | [d] => { results := [.lit (.bool false)], args := [d] }
  | _ => none }
def FnExactTrieOfMachineWrongFalsely : Prop := fnExactTrieOfMachineRow.holds Tryz.pinned (OpenSpec.ofChange fnExactTrieOfMachineWrong)

/-- 'laws.FnExactIsMachine': WHATEVER THE INPUT: true; the input reads as it did. -/
def fnExactIsMachineSpec : ChangeSpec := { name := "fnExactIsMachine", fn := fun _ => fun
  | [d] => { results := [.lit (.bool true)], args := [d] }
  | _ => none }
def fnExactIsMachineRow : OpenClaim := { program := "ytnnkedeohfbkeaagreatdoor", sum := "e24c6caa0ff89291210bd272a1b4ef91629e3b4bac207294db27d8c3201bc1dc", func := "loop.example/g01243/laws.FnExactIsMachine", spec := "fnExactIsMachine", inPlace := ["internal/bytealg.IndexByteString", "internal/bytealg.IndexString"], unfollowed := true, recurses := true, named := ["unicode/utf8.first", "unicode/utf8.acceptRanges", "internal/bytealg.MaxLen"], apart := false, laid := [("unicode/utf8.acceptRanges", laid_unicode_utf8_acceptRanges), ("unicode/utf8.first", laid_unicode_utf8_first)] }
def FnExactIsMachineSaid : Prop := fnExactIsMachineRow.holds Tryz.pinned (OpenSpec.ofChange fnExactIsMachineSpec)

/-- ITS FALSE NEIGHBOUR: 'it returns false'. Refute it at one input. -/
def fnExactIsMachineWrong : ChangeSpec := { name := "fnExactIsMachine", fn := fun _ => fun
  | [d] => { results := [.lit (.bool false)], args := [d] }
  | _ => none }
def FnExactIsMachineWrongFalsely : Prop := fnExactIsMachineRow.holds Tryz.pinned (OpenSpec.ofChange fnExactIsMachineWrong)

/-- 'laws.FnExactCountEdges': WHATEVER THE INPUT: true; the input reads as it did. -/
def fnExactCountEdgesSpec : ChangeSpec := { name := "fnExactCountEdges", fn := fun _ => fun
  | [d] => { results := [.lit (.bool true)], args := [d] }
  | _ => none }
def fnExactCountEdgesRow : OpenClaim := { program := "ytnnkedeohfbkeaagreatdoor", sum := "e24c6caa0ff89291210bd272a1b4ef91629e3b4bac207294db27d8c3201bc1dc", func := "loop.example/g01243/laws.FnExactCountEdges", spec := "fnExactCountEdges", inPlace := ["internal/bytealg.IndexByteString", "internal/bytealg.IndexString"], unfollowed := true, recurses := true, named := ["unicode/utf8.first", "unicode/utf8.acceptRanges", "internal/bytealg.MaxLen"], apart := false, laid := [("unicode/utf8.acceptRanges", laid_unicode_utf8_acceptRanges), ("unicode/utf8.first", laid_unicode_utf8_first)] }
def FnExactCountEdgesSaid : Prop := fnExactCountEdgesRow.holds Tryz.pinned (OpenSpec.ofChange fnExactCountEdgesSpec)

/-- ITS FALSE NEIGHBOUR: 'it returns false'. Refute it at one input. -/
def fnExactCountEdgesWrong : ChangeSpec := { name := "fnExactCountEdges", fn := fun _ => fun
  | [d] => { results := [.lit (.bool false)], args := [d] }
  | _ => none }
def FnExactCountEdgesWrongFalsely : Prop := fnExactCountEdgesRow.holds Tryz.pinned (OpenSpec.ofChange fnExactCountEdgesWrong)

/-- 'laws.FnExactDoesTake': WHATEVER THE INPUT: true; the input reads as it did. -/
def fnExactDoesTakeSpec : ChangeSpec := { name := "fnExactDoesTake", fn := fun _ => fun
  | [d1, d2] => { results := [.lit (.bool true)], args := [d1, d2] }
  | _ => none }
def fnExactDoesTakeRow : OpenClaim := { program := "ytnnkedeohfbkeaagreatdoor", sum := "e24c6caa0ff89291210bd272a1b4ef91629e3b4bac207294db27d8c3201bc1dc", func := "loop.example/g01243/laws.FnExactDoesTake", spec := "fnExactDoesTake", inPlace := ["internal/bytealg.IndexByteString", "internal/bytealg.IndexString"], unfollowed := true, recurses := true, named := ["unicode/utf8.first", "unicode/utf8.acceptRanges", "internal/bytealg.MaxLen"], apart := false, laid := [("unicode/utf8.acceptRanges", laid_unicode_utf8_acceptRanges), ("unicode/utf8.first", laid_unicode_utf8_first)] }
def FnExactDoesTakeSaid : Prop := fnExactDoesTakeRow.holds Tryz.pinned (OpenSpec.ofChange fnExactDoesTakeSpec)

/-- ITS FALSE NEIGHBOUR: 'it returns false'. Refute it at one input. -/
def fnExactDoesTakeWrong : ChangeSpec := { name := "fnExactDoesTake", fn := fun _ => fun
  | [d1, d2] => { results := [.lit (.bool false)], args := [d1, d2] }
  | _ => none }
def FnExactDoesTakeWrongFalsely : Prop := fnExactDoesTakeRow.holds Tryz.pinned (OpenSpec.ofChange fnExactDoesTakeWrong)

/-- 'laws.FnExactWordNumbered': WHATEVER THE INPUT: true; the input reads as it did. -/
def fnExactWordNumberedSpec : ChangeSpec := { name := "fnExactWordNumbered", fn := fun _ => fun
  | [d1, d2] => { results := [.lit (.bool true)], args := [d1, d2] }
  | _ => none }
def fnExactWordNumberedRow : OpenClaim := { program := "ytnnkedeohfbkeaagreatdoor", sum := "e24c6caa0ff89291210bd272a1b4ef91629e3b4bac207294db27d8c3201bc1dc", func := "loop.example/g01243/laws.FnExactWordNumbered", spec := "fnExactWordNumbered", inPlace := ["internal/bytealg.IndexByteString", "internal/bytealg.IndexString"], unfollowed := true, recurses := true, named := ["unicode/utf8.first", "unicode/utf8.acceptRanges", "internal/bytealg.MaxLen"], apart := false, laid := [("unicode/utf8.acceptRanges", laid_unicode_utf8_acceptRanges), ("unicode/utf8.first", laid_unicode_utf8_first)] }
def FnExactWordNumberedSaid : Prop := fnExactWordNumberedRow.holds Tryz.pinned (OpenSpec.ofChange fnExactWordNumberedSpec)

/-- ITS FALSE NEIGHBOUR: 'it returns false'. Refute it at one input. -/
def fnExactWordNumberedWrong : ChangeSpec := { name := "fnExactWordNumbered", fn := fun _ => fun
  | [d1, d2] => { results := [.lit (.bool false)], args := [d1, d2] }
  | _ => none }
def FnExactWordNumberedWrongFalsely : Prop := fnExactWordNumberedRow.holds Tryz.pinned (OpenSpec.ofChange fnExactWordNumberedWrong)

/-- 'laws.FnExactLevelOf': WHATEVER THE INPUT: true; the input reads as it did. -/
def fnExactLevelOfSpec : ChangeSpec := { name := "fnExactLevelOf", fn := fun _ => fun
  | [d1, d2] => { results := [.lit (.bool true)], args := [d1, d2] }
  | _ => none }
def fnExactLevelOfRow : OpenClaim := { program := "ytnnkedeohfbkeaagreatdoor", sum := "e24c6caa0ff89291210bd272a1b4ef91629e3b4bac207294db27d8c3201bc1dc", func := "loop.example/g01243/laws.FnExactLevelOf", spec := "fnExactLevelOf", inPlace := ["internal/bytealg.IndexByteString", "internal/bytealg.IndexString"], unfollowed := true, recurses := true, named := ["unicode/utf8.first", "unicode/utf8.acceptRanges", "internal/bytealg.MaxLen"], apart := false, laid := [("unicode/utf8.acceptRanges", laid_unicode_utf8_acceptRanges), ("unicode/utf8.first", laid_unicode_utf8_first)] }
def FnExactLevelOfSaid : Prop := fnExactLevelOfRow.holds Tryz.pinned (OpenSpec.ofChange fnExactLevelOfSpec)

/-- ITS FALSE NEIGHBOUR: 'it returns false'. Refute it at one input. -/
def fnExactLevelOfWrong : ChangeSpec := { name := "fnExactLevelOf", fn := fun _ => fun
  | [d1, d2] => { results := [.lit (.bool false)], args := [d1, d2] }
  | _ => none }
def FnExactLevelOfWrongFalsely : Prop := fnExactLevelOfRow.holds Tryz.pinned (OpenSpec.ofChange fnExactLevelOfWrong)

/-- 'laws.FnExactNumberOf': WHATEVER THE INPUT: true; the input reads as it did. -/
def fnExactNumberOfSpec : ChangeSpec := { name := "fnExactNumberOf", fn := fun _ => fun
  | [d1, d2] => { results := [.lit (.bool true)], args := [d1, d2] }
  | _ => none }
def fnExactNumberOfRow : OpenClaim := { program := "ytnnkedeohfbkeaagreatdoor", sum := "e24c6caa0ff89291210bd272a1b4ef91629e3b4bac207294db27d8c3201bc1dc", func := "loop.example/g01243/laws.FnExactNumberOf", spec := "fnExactNumberOf", inPlace := ["internal/bytealg.IndexByteString", "internal/bytealg.IndexString"], unfollowed := true, recurses := true, named := ["unicode/utf8.first", "unicode/utf8.acceptRanges", "internal/bytealg.MaxLen"], apart := false, laid := [("unicode/utf8.acceptRanges", laid_unicode_utf8_acceptRanges), ("unicode/utf8.first", laid_unicode_utf8_first)] }
def FnExactNumberOfSaid : Prop := fnExactNumberOfRow.holds Tryz.pinned (OpenSpec.ofChange fnExactNumberOfSpec)

/-- ITS FALSE NEIGHBOUR: 'it returns false'. Refute it at one input. -/
def fnExactNumberOfWrong : ChangeSpec := { name := "fnExactNumberOf", fn := fun _ => fun
  | [d1, d2] => { results := [.lit (.bool false)], args := [d1, d2] }
  | _ => none }
def FnExactNumberOfWrongFalsely : Prop := fnExactNumberOfRow.holds Tryz.pinned (OpenSpec.ofChange fnExactNumberOfWrong)

/-- 'laws.FnExactStateOf': WHATEVER THE INPUT: true; the input reads as it did. -/
def fnExactStateOfSpec : ChangeSpec := { name := "fnExactStateOf", fn := fun _ => fun
  | [d1, d2] => { results := [.lit (.bool true)], args := [d1, d2] }
  | _ => none }
def fnExactStateOfRow : OpenClaim := { program := "ytnnkedeohfbkeaagreatdoor", sum := "e24c6caa0ff89291210bd272a1b4ef91629e3b4bac207294db27d8c3201bc1dc", func := "loop.example/g01243/laws.FnExactStateOf", spec := "fnExactStateOf", inPlace := ["internal/bytealg.IndexByteString", "internal/bytealg.IndexString"], unfollowed := true, recurses := true, named := ["unicode/utf8.first", "unicode/utf8.acceptRanges", "internal/bytealg.MaxLen"], apart := false, laid := [("unicode/utf8.acceptRanges", laid_unicode_utf8_acceptRanges), ("unicode/utf8.first", laid_unicode_utf8_first)] }
def FnExactStateOfSaid : Prop := fnExactStateOfRow.holds Tryz.pinned (OpenSpec.ofChange fnExactStateOfSpec)

/-- ITS FALSE NEIGHBOUR: 'it returns false'. Refute it at one input. -/
def fnExactStateOfWrong : ChangeSpec := { name := "fnExactStateOf", fn := fun _ => fun
  | [d1, d2] => { results := [.lit (.bool false)], args := [d1, d2] }
  | _ => none }
def FnExactStateOfWrongFalsely : Prop := fnExactStateOfRow.holds Tryz.pinned (OpenSpec.ofChange fnExactStateOfWrong)

/-- 'laws.FnExactBehindState': WHATEVER THE INPUT: true; the input reads as it did. -/
def fnExactBehindStateSpec : ChangeSpec := { name := "fnExactBehindState", fn := fun _ => fun
  | [d1, d2] => { results := [.lit (.bool true)], args := [d1, d2] }
  | _ => none }
def fnExactBehindStateRow : OpenClaim := { program := "ytnnkedeohfbkeaagreatdoor", sum := "e24c6caa0ff89291210bd272a1b4ef91629e3b4bac207294db27d8c3201bc1dc", func := "loop.example/g01243/laws.FnExactBehindState", spec := "fnExactBehindState", inPlace := ["internal/bytealg.IndexByteString", "internal/bytealg.IndexString"], unfollowed := true, recurses := true, named := ["unicode/utf8.first", "unicode/utf8.acceptRanges", "internal/bytealg.MaxLen"], apart := false, laid := [("unicode/utf8.acceptRanges", laid_unicode_utf8_acceptRanges), ("unicode/utf8.first", laid_unicode_utf8_first)] }
def FnExactBehindStateSaid : Prop := fnExactBehindStateRow.holds Tryz.pinned (OpenSpec.ofChange fnExactBehindStateSpec)

/-- ITS FALSE NEIGHBOUR: 'it returns false'. Refute it at one input. -/
def fnExactBehindStateWrong : ChangeSpec := { name := "fnExactBehindState", fn := fun _ => fun
  | [d1, d2] => { results := [.lit (.bool false)], args := [d1, d2] }
  | _ => none }
def FnExactBehindStateWrongFalsely : Prop := fnExactBehindStateRow.holds Tryz.pinned (OpenSpec.ofChange fnExactBehindStateWrong)

/-- 'laws.FnExactJoiningStates': WHATEVER THE INPUT: true; the input reads as it did. -/
def fnExactJoiningStatesSpec : ChangeSpec := { name := "fnExactJoiningStates", fn := fun _ => fun
  | [d] => { results := [.lit (.bool true)], args := [d] }
  | _ => none }
def fnExactJoiningStatesRow : OpenClaim := { program := "ytnnkedeohfbkeaagreatdoor", sum := "e24c6caa0ff89291210bd272a1b4ef91629e3b4bac207294db27d8c3201bc1dc", func := "loop.example/g01243/laws.FnExactJoiningStates", spec := "fnExactJoiningStates", inPlace := ["internal/bytealg.IndexByteString", "internal/bytealg.IndexString"], unfollowed := true, recurses := true, named := ["unicode/utf8.first", "unicode/utf8.acceptRanges", "internal/bytealg.MaxLen"], apart := false, laid := [("unicode/utf8.acceptRanges", laid_unicode_utf8_acceptRanges), ("unicode/utf8.first", laid_unicode_utf8_first)] }
def FnExactJoiningStatesSaid : Prop := fnExactJoiningStatesRow.holds Tryz.pinned (OpenSpec.ofChange fnExactJoiningStatesSpec)

/-- ITS FALSE NEIGHBOUR: 'it returns false'. Refute it at one input. -/
def fnExactJoiningStatesWrong : ChangeSpec := { name := "fnExactJoiningStates", fn := fun _ => fun
  | [d] => { results := [.lit (.bool false)], args := [d] }
  | _ => none }
def FnExactJoiningStatesWrongFalsely : Prop := fnExactJoiningStatesRow.holds Tryz.pinned (OpenSpec.ofChange fnExactJoiningStatesWrong)

/- THE SECOND FORM. 'bulk': how many values and letters a reading holds, each counted each time it is reached (what is shared counts as often as it is met; a slice's spare places count too). A statement '..UptoSaid' is the law's where the arguments, and the package variables that the reading takes, are together of bulk at most 1048576: NARROWER than '..Said'. Prove '..Said' where nothing that the law and all that it calls make is longer than what came in: it says more and counts as full. Else prove '..UptoSaid'. A law counts once. -/
mutual
def uptoBulk {H : Type} : DataW H → Nat
  | .lit (.string bytes) => bytes.length + 1
  | .lit _ => 1
  | .nil => 1
  | .ptr d => uptoBulk d + 1
  | .slice elems spare => uptoBulkAll elems + uptoBulkAll spare + 1
  | .agg parts => uptoBulkAll parts + 1
  | .iface _ d => uptoBulk d + 1
  | .map entries => uptoBulkEntries entries + 1
  | .held _ => 1
def uptoBulkAll {H : Type} : List (DataW H) → Nat
  | [] => 0
  | d :: r => uptoBulk d + uptoBulkAll r
def uptoBulkEntries {H : Type} : List (Lit × DataW H) → Nat
  | [] => 0
  | x :: r => uptoBulkEntry x + uptoBulkEntries r
def uptoBulkEntry {H : Type} : Lit × DataW H → Nat
  | (.string bytes, d) => bytes.length + uptoBulk d + 1
  | (_, d) => uptoBulk d + 1
 end
def uptoSmall : (H : Type) → List (DataW H) → Bool := fun _ ds => decide (uptoBulkAll ds ≤ 1048576)
def OpenSpec.upto (s : _root_.Go.ChangeSpec) : _root_.Go.OpenSpec := { _root_.Go.OpenSpec.ofChange s with cond := some uptoSmall }

/-- 'laws.FnExactTrieOfMachine', WHERE WHAT IT READS IS OF BULK AT MOST 1048576: true; the input reads as it did. -/
def fnExactTrieOfMachineUptoRow : OpenClaim := { program := "ytnnkedeohfbkeaagreatdoor", sum := "e24c6caa0ff89291210bd272a1b4ef91629e3b4bac207294db27d8c3201bc1dc", func := "loop.example/g01243/laws.FnExactTrieOfMachine", spec := "fnExactTrieOfMachine", inPlace := ["internal/bytealg.IndexByteString", "internal/bytealg.IndexString"], unfollowed := true, recurses := true, named := ["unicode/utf8.first", "unicode/utf8.acceptRanges", "internal/bytealg.MaxLen"], apart := false, laid := [("unicode/utf8.acceptRanges", laid_unicode_utf8_acceptRanges), ("unicode/utf8.first", laid_unicode_utf8_first)], narrowed := true }
def FnExactTrieOfMachineUptoSaid : Prop := fnExactTrieOfMachineUptoRow.holds Tryz.pinned (OpenSpec.upto fnExactTrieOfMachineSpec)

/-- 'laws.FnExactIsMachine', WHERE WHAT IT READS IS OF BULK AT MOST 1048576: true; the input reads as it did. -/
def fnExactIsMachineUptoRow : OpenClaim := { program := "ytnnkedeohfbkeaagreatdoor", sum := "e24c6caa0ff89291210bd272a1b4ef91629e3b4bac207294db27d8c3201bc1dc", func := "loop.example/g01243/laws.FnExactIsMachine", spec := "fnExactIsMachine", inPlace := ["internal/bytealg.IndexByteString", "internal/bytealg.IndexString"], unfollowed := true, recurses := true, named := ["unicode/utf8.first", "unicode/utf8.acceptRanges", "internal/bytealg.MaxLen"], apart := false, laid := [("unicode/utf8.acceptRanges", laid_unicode_utf8_acceptRanges), ("unicode/utf8.first", laid_unicode_utf8_first)], narrowed := true }
def FnExactIsMachineUptoSaid : Prop := fnExactIsMachineUptoRow.holds Tryz.pinned (OpenSpec.upto fnExactIsMachineSpec)

/-- 'laws.FnExactCountEdges', WHERE WHAT IT READS IS OF BULK AT MOST 1048576: true; the input reads as it did. -/
def fnExactCountEdgesUptoRow : OpenClaim := { program := "ytnnkedeohfbkeaagreatdoor", sum := "e24c6caa0ff89291210bd272a1b4ef91629e3b4bac207294db27d8c3201bc1dc", func := "loop.example/g01243/laws.FnExactCountEdges", spec := "fnExactCountEdges", inPlace := ["internal/bytealg.IndexByteString", "internal/bytealg.IndexString"], unfollowed := true, recurses := true, named := ["unicode/utf8.first", "unicode/utf8.acceptRanges", "internal/bytealg.MaxLen"], apart := false, laid := [("unicode/utf8.acceptRanges", laid_unicode_utf8_acceptRanges), ("unicode/utf8.first", laid_unicode_utf8_first)], narrowed := true }
def FnExactCountEdgesUptoSaid : Prop := fnExactCountEdgesUptoRow.holds Tryz.pinned (OpenSpec.upto fnExactCountEdgesSpec)

/-- 'laws.FnExactDoesTake', WHERE WHAT IT READS IS OF BULK AT MOST 1048576: true; the input reads as it did. -/
def fnExactDoesTakeUptoRow : OpenClaim := { program := "ytnnkedeohfbkeaagreatdoor", sum := "e24c6caa0ff89291210bd272a1b4ef91629e3b4bac207294db27d8c3201bc1dc", func := "loop.example/g01243/laws.FnExactDoesTake", spec := "fnExactDoesTake", inPlace := ["internal/bytealg.IndexByteString", "internal/bytealg.IndexString"], unfollowed := true, recurses := true, named := ["unicode/utf8.first", "unicode/utf8.acceptRanges", "internal/bytealg.MaxLen"], apart := false, laid := [("unicode/utf8.acceptRanges", laid_unicode_utf8_acceptRanges), ("unicode/utf8.first", laid_unicode_utf8_first)], narrowed := true }
def FnExactDoesTakeUptoSaid : Prop := fnExactDoesTakeUptoRow.holds Tryz.pinned (OpenSpec.upto fnExactDoesTakeSpec)

/-- 'laws.FnExactWordNumbered', WHERE WHAT IT READS IS OF BULK AT MOST 1048576: true; the input reads as it did. -/
def fnExactWordNumberedUptoRow : OpenClaim := { program := "ytnnkedeohfbkeaagreatdoor", sum := "e24c6caa0ff89291210bd272a1b4ef91629e3b4bac207294db27d8c3201bc1dc", func := "loop.example/g01243/laws.FnExactWordNumbered", spec := "fnExactWordNumbered", inPlace := ["internal/bytealg.IndexByteString", "internal/bytealg.IndexString"], unfollowed := true, recurses := true, named := ["unicode/utf8.first", "unicode/utf8.acceptRanges", "internal/bytealg.MaxLen"], apart := false, laid := [("unicode/utf8.acceptRanges", laid_unicode_utf8_acceptRanges), ("unicode/utf8.first", laid_unicode_utf8_first)], narrowed := true }
def FnExactWordNumberedUptoSaid : Prop := fnExactWordNumberedUptoRow.holds Tryz.pinned (OpenSpec.upto fnExactWordNumberedSpec)

/-- 'laws.FnExactLevelOf', WHERE WHAT IT READS IS OF BULK AT MOST 1048576: true; the input reads as it did. -/
def fnExactLevelOfUptoRow : OpenClaim := { program := "ytnnkedeohfbkeaagreatdoor", sum := "e24c6caa0ff89291210bd272a1b4ef91629e3b4bac207294db27d8c3201bc1dc", func := "loop.example/g01243/laws.FnExactLevelOf", spec := "fnExactLevelOf", inPlace := ["internal/bytealg.IndexByteString", "internal/bytealg.IndexString"], unfollowed := true, recurses := true, named := ["unicode/utf8.first", "unicode/utf8.acceptRanges", "internal/bytealg.MaxLen"], apart := false, laid := [("unicode/utf8.acceptRanges", laid_unicode_utf8_acceptRanges), ("unicode/utf8.first", laid_unicode_utf8_first)], narrowed := true }
def FnExactLevelOfUptoSaid : Prop := fnExactLevelOfUptoRow.holds Tryz.pinned (OpenSpec.upto fnExactLevelOfSpec)

/-- 'laws.FnExactNumberOf', WHERE WHAT IT READS IS OF BULK AT MOST 1048576: true; the input reads as it did. -/
def fnExactNumberOfUptoRow : OpenClaim := { program := "ytnnkedeohfbkeaagreatdoor", sum := "e24c6caa0ff89291210bd272a1b4ef91629e3b4bac207294db27d8c3201bc1dc", func := "loop.example/g01243/laws.FnExactNumberOf", spec := "fnExactNumberOf", inPlace := ["internal/bytealg.IndexByteString", "internal/bytealg.IndexString"], unfollowed := true, recurses := true, named := ["unicode/utf8.first", "unicode/utf8.acceptRanges", "internal/bytealg.MaxLen"], apart := false, laid := [("unicode/utf8.acceptRanges", laid_unicode_utf8_acceptRanges), ("unicode/utf8.first", laid_unicode_utf8_first)], narrowed := true }
def FnExactNumberOfUptoSaid : Prop := fnExactNumberOfUptoRow.holds Tryz.pinned (OpenSpec.upto fnExactNumberOfSpec)

/-- 'laws.FnExactStateOf', WHERE WHAT IT READS IS OF BULK AT MOST 1048576: true; the input reads as it did. -/
def fnExactStateOfUptoRow : OpenClaim := { program := "ytnnkedeohfbkeaagreatdoor", sum := "e24c6caa0ff89291210bd272a1b4ef91629e3b4bac207294db27d8c3201bc1dc", func := "loop.example/g01243/laws.FnExactStateOf", spec := "fnExactStateOf", inPlace := ["internal/bytealg.IndexByteString", "internal/bytealg.IndexString"], unfollowed := true, recurses := true, named := ["unicode/utf8.first", "unicode/utf8.acceptRanges", "internal/bytealg.MaxLen"], apart := false, laid := [("unicode/utf8.acceptRanges", laid_unicode_utf8_acceptRanges), ("unicode/utf8.first", laid_unicode_utf8_first)], narrowed := true }
def FnExactStateOfUptoSaid : Prop := fnExactStateOfUptoRow.holds Tryz.pinned (OpenSpec.upto fnExactStateOfSpec)

/-- 'laws.FnExactBehindState', WHERE WHAT IT READS IS OF BULK AT MOST 1048576: true; the input reads as it did. -/
def fnExactBehindStateUptoRow : OpenClaim := { program := "ytnnkedeohfbkeaagreatdoor", sum := "e24c6caa0ff89291210bd272a1b4ef91629e3b4bac207294db27d8c3201bc1dc", func := "loop.example/g01243/laws.FnExactBehindState", spec := "fnExactBehindState", inPlace := ["internal/bytealg.IndexByteString", "internal/bytealg.IndexString"], unfollowed := true, recurses := true, named := ["unicode/utf8.first", "unicode/utf8.acceptRanges", "internal/bytealg.MaxLen"], apart := false, laid := [("unicode/utf8.acceptRanges", laid_unicode_utf8_acceptRanges), ("unicode/utf8.first", laid_unicode_utf8_first)], narrowed := true }
def FnExactBehindStateUptoSaid : Prop := fnExactBehindStateUptoRow.holds Tryz.pinned (OpenSpec.upto fnExactBehindStateSpec)

/-- 'laws.FnExactJoiningStates', WHERE WHAT IT READS IS OF BULK AT MOST 1048576: true; the input reads as it did. -/
def fnExactJoiningStatesUptoRow : OpenClaim := { program := "ytnnkedeohfbkeaagreatdoor", sum := "e24c6caa0ff89291210bd272a1b4ef91629e3b4bac207294db27d8c3201bc1dc", func := "loop.example/g01243/laws.FnExactJoiningStates", spec := "fnExactJoiningStates", inPlace := ["internal/bytealg.IndexByteString", "internal/bytealg.IndexString"], unfollowed := true, recurses := true, named := ["unicode/utf8.first", "unicode/utf8.acceptRanges", "internal/bytealg.MaxLen"], apart := false, laid := [("unicode/utf8.acceptRanges", laid_unicode_utf8_acceptRanges), ("unicode/utf8.first", laid_unicode_utf8_first)], narrowed := true }
def FnExactJoiningStatesUptoSaid : Prop := fnExactJoiningStatesUptoRow.holds Tryz.pinned (OpenSpec.upto fnExactJoiningStatesSpec)

end Rows
end Go.Proofs.YtnnkedeohfbkeaaGreatDoor
