/-
  NARROWER THAN 'FOR EVERY INPUT', by the rows' own cells (each row's printed sentence says how): FnExactAlikeWords: laid · FnExactMeanUnique: laid · FnExactNearWords: laid.
  DERIVED. THE GIVEN ROWS OF THIS SEAT. 3 by the template 'for every input the law returns true; each argument reads behind the call as it read before'; 0 by the template 'total and deterministic' (their statements: YtpgobnhklnglhaaGreatDoorTotals.lean).
  GIVEN WITH THE SEED: the statements are not yours to turn. If you find one false, say at which input.
  Laid BY PROGRAM, IN A SANDBOX (cutbox-rows.mjs): the forced cells as the released guide's own fill.sh prints them over the translation 85bfa75486ecd5e0… (all of the seat's roots in one cut). By AI agents, Wed Nov 11 2026. No macro, syntax, notation, axiom, sorry.
-/
import Derived.Test.YtpgobnhklnglhaaGreatDoorChecked
import GoSem.PinnedTables
import GoSem.Claim
import GoSem.ClaimJoined
import GoSem.ClaimMapViews
import Derived.JoinedTies
import Derived.KernelRfl
namespace Go.Proofs.YtpgobnhklnglhaaGreatDoor
/- THE CELL 'sum', in the pinned program and in every row, IS THE sha256 OF THE DUMP (.gsa) THAT YtpgobnhklnglhaaGreatDoorProg.lean LOADS. Nothing in Lean hashes anything: it is a label: what it is worth is what the hold of that sum in a sandbox is worth. -/
noncomputable def Tryz.pinned : Pinned := { name := "ytpgobnhklnglhaagreatdoor", sum := "85bfa75486ecd5e0af51d02e9e7d8f1c7f3ee0ea4c4e007c7b95e21e300e9f0e", checked := Tryz.checked }
namespace Rows
def none {H : Type} : Left H := { results := [], args := [] }

/- WHAT THE LISTED PACKAGE-LEVEL VARIABLES READ AS WHEN THE CALL BEGINS. Each datum BY PROGRAM (the guide's laid-datum.mjs) off the statement by which the dump's own 'gosem.cut.vars' lays the variable. In a bare row this is a premise. The card (YtpgobnhklnglhaaGreatDoorCards.lean) ties it to the program's text. -/
def laid_unicode_utf8_acceptRanges {H : Type} : DataW H := .agg [.agg [.lit (.int .u8 128), .lit (.int .u8 191)], .agg [.lit (.int .u8 160), .lit (.int .u8 191)], .agg [.lit (.int .u8 128), .lit (.int .u8 159)], .agg [.lit (.int .u8 144), .lit (.int .u8 191)], .agg [.lit (.int .u8 128), .lit (.int .u8 143)], .agg [.lit (.int .u8 0), .lit (.int .u8 0)], .agg [.lit (.int .u8 0), .lit (.int .u8 0)], .agg [.lit (.int .u8 0), .lit (.int .u8 0)], .agg [.lit (.int .u8 0), .lit (.int .u8 0)], .agg [.lit (.int .u8 0), .lit (.int .u8 0)], .agg [.lit (.int .u8 0), .lit (.int .u8 0)], .agg [.lit (.int .u8 0), .lit (.int .u8 0)], .agg [.lit (.int .u8 0), .lit (.int .u8 0)], .agg [.lit (.int .u8 0), .lit (.int .u8 0)], .agg [.lit (.int .u8 0), .lit (.int .u8 0)], .agg [.lit (.int .u8 0), .lit (.int .u8 0)]]
/-- One of Go's own tables, pinned by name: the form's constant. -/
def laid_unicode_utf8_first : DataW Unit := Go.Pinned.utf8First

/-- 'laws.FnExactAlikeWords': WHATEVER THE INPUT: true; the input reads as it did. -/
def fnExactAlikeWordsSpec : ChangeSpec := { name := "fnExactAlikeWords", fn := fun _ => fun
  | [d1, d2, d3] => { results := [.lit (.bool true)], args := [d1, d2, d3] }
  | _ => none }
def fnExactAlikeWordsRow : OpenClaim := { program := "ytpgobnhklnglhaagreatdoor", sum := "85bfa75486ecd5e0af51d02e9e7d8f1c7f3ee0ea4c4e007c7b95e21e300e9f0e", func := "loop.example/g01243/laws.FnExactAlikeWords", spec := "fnExactAlikeWords", inPlace := ["internal/bytealg.IndexByteString", "internal/bytealg.IndexString"], unfollowed := true, recurses := true, named := ["unicode/utf8.first", "unicode/utf8.acceptRanges", "internal/bytealg.MaxLen"], apart := false, laid := [("unicode/utf8.acceptRanges", laid_unicode_utf8_acceptRanges), ("unicode/utf8.first", laid_unicode_utf8_first)] }
def FnExactAlikeWordsSaid : Prop := fnExactAlikeWordsRow.holds Tryz.pinned (OpenSpec.ofChange fnExactAlikeWordsSpec)

/-- ITS FALSE NEIGHBOUR: 'it returns false'. Refute it at one input. -/
def fnExactAlikeWordsWrong : ChangeSpec := { name := "fnExactAlikeWords", fn := fun _ => fun
  | [d1, d2, d3] => { results := [.lit (.bool false)], args := [d1, d2, d3] }
  | _ => none }
def FnExactAlikeWordsWrongFalsely : Prop := fnExactAlikeWordsRow.holds Tryz.pinned (OpenSpec.ofChange fnExactAlikeWordsWrong)

/-- 'laws.FnExactMeanUnique': WHATEVER THE INPUT: true; the input reads as it did. -/
def fnExactMeanUniqueSpec : ChangeSpec := { name := "fnExactMeanUnique", fn := fun _ => fun
  | [d] => { results := [.lit (.bool true)], args := [d] }
  | _ => none }
def fnExactMeanUniqueRow : OpenClaim := { program := "ytpgobnhklnglhaagreatdoor", sum := "85bfa75486ecd5e0af51d02e9e7d8f1c7f3ee0ea4c4e007c7b95e21e300e9f0e", func := "loop.example/g01243/laws.FnExactMeanUnique", spec := "fnExactMeanUnique", inPlace := ["internal/bytealg.IndexByteString", "internal/bytealg.IndexString"], unfollowed := true, recurses := true, named := ["unicode/utf8.first", "unicode/utf8.acceptRanges", "internal/bytealg.MaxLen"], apart := false, laid := [("unicode/utf8.acceptRanges", laid_unicode_utf8_acceptRanges), ("unicode/utf8.first", laid_unicode_utf8_first)] }
def FnExactMeanUniqueSaid : Prop := fnExactMeanUniqueRow.holds Tryz.pinned (OpenSpec.ofChange fnExactMeanUniqueSpec)

/-- ITS FALSE NEIGHBOUR: 'it returns false'. Refute it at one input. -/
def fnExactMeanUniqueWrong : ChangeSpec := { name := "fnExactMeanUnique", fn := fun _ => fun
  | [d] => { results := [.lit (.bool false)], args := [d] }
  | _ => none }
def FnExactMeanUniqueWrongFalsely : Prop := fnExactMeanUniqueRow.holds Tryz.pinned (OpenSpec.ofChange fnExactMeanUniqueWrong)

/-- 'laws.FnExactNearWords': WHATEVER THE INPUT: true; the input reads as it did. -/
def fnExactNearWordsSpec : ChangeSpec := { name := "fnExactNearWords", fn := fun _ => fun
  | [d1, d2, d3] => { results := [.lit (.bool true)], args := [d1, d2, d3] }
  | _ => none }
def fnExactNearWordsRow : OpenClaim := { program := "ytpgobnhklnglhaagreatdoor", sum := "85bfa75486ecd5e0af51d02e9e7d8f1c7f3ee0ea4c4e007c7b95e21e300e9f0e", func := "loop.example/g01243/laws.FnExactNearWords", spec := "fnExactNearWords", inPlace := ["internal/bytealg.IndexByteString", "internal/bytealg.IndexString"], unfollowed := true, recurses := true, named := ["unicode/utf8.first", "unicode/utf8.acceptRanges", "internal/bytealg.MaxLen"], apart := false, laid := [("unicode/utf8.acceptRanges", laid_unicode_utf8_acceptRanges), ("unicode/utf8.first", laid_unicode_utf8_first)] }
def FnExactNearWordsSaid : Prop := fnExactNearWordsRow.holds Tryz.pinned (OpenSpec.ofChange fnExactNearWordsSpec)

/-- ITS FALSE NEIGHBOUR: 'it returns false'. Refute it at one input. -/
def fnExactNearWordsWrong : ChangeSpec := { name := "fnExactNearWords", fn := fun _ => fun
  | [d1, d2, d3] => { results := [.lit (.bool false)], args := [d1, d2, d3] }
  | _ => none }
def FnExactNearWordsWrongFalsely : Prop := fnExactNearWordsRow.holds Tryz.pinned (OpenSpec.ofChange fnExactNearWordsWrong)

/- THE SECOND FORM. 'bulk': how many values and letters a reading holds, each counted each time it is reached (what is shared counts as often as it is met; a slice's spare places count too). A statement '..UptoSaid' is the law's where the arguments, and the package variables that the reading takes, are together of bulk at most 1048576: NARROWER than '..Said'. Prove '..Said' where nothing that the law and all that it calls make is longer than what came in: it says more and counts as full. Else prove '..UptoSaid'. A law counts once. -/
mutual
def uptoBulk {H : Type} : DataW H → Nat
  | .lit (.string bytes) => bytes.length + 1
  | .lit _ => 1
  | .nil => 1
  | .ptr d => uptoBulk d + 1
  | .slice elems spare => uptoBulkAll elems + uptoBulkAll spare + 1
  | .agg parts => uptoBulkAll parts + 1
  | .iface _ d => uptoBulk d + 1
  | .map entries => uptoBulkEntries entries + 1
  | .held _ => 1
def uptoBulkAll {H : Type} : List (DataW H) → Nat
  | [] => 0
  | d :: r => uptoBulk d + uptoBulkAll r
def uptoBulkEntries {H : Type} : List (Lit × DataW H) → Nat
  | [] => 0
  | x :: r => uptoBulkEntry x + uptoBulkEntries r
def uptoBulkEntry {H : Type} : Lit × DataW H → Nat
  | (.string bytes, d) => bytes.length + uptoBulk d + 1
  | (_, d) => uptoBulk d + 1
 end
def uptoSmall : (H : Type) → List (DataW H) → Bool := fun _ ds => decide (uptoBulkAll ds ≤ 1048576)
def OpenSpec.upto (s : _root_.Go.ChangeSpec) : _root_.Go.OpenSpec := { _root_.Go.OpenSpec.ofChange s with cond := some uptoSmall }

/-- 'laws.FnExactAlikeWords', WHERE WHAT IT READS IS OF BULK AT MOST 1048576: true; the input reads as it did. -/
def fnExactAlikeWordsUptoRow : OpenClaim := { program := "ytpgobnhklnglhaagreatdoor", sum := "85bfa75486ecd5e0af51d02e9e7d8f1c7f3ee0ea4c4e007c7b95e21e300e9f0e", func := "loop.example/g01243/laws.FnExactAlikeWords", spec := "fnExactAlikeWords", inPlace := ["internal/bytealg.IndexByteString", "internal/bytealg.IndexString"], unfollowed := true, recurses := true, named := ["unicode/utf8.first", "unicode/utf8.acceptRanges", "internal/bytealg.MaxLen"], apart := false, laid := [("unicode/utf8.acceptRanges", laid_unicode_utf8_acceptRanges), ("unicode/utf8.first", laid_unicode_utf8_first)], narrowed := true }
def FnExactAlikeWordsUptoSaid : Prop := fnExactAlikeWordsUptoRow.holds Tryz.pinned (OpenSpec.upto fnExactAlikeWordsSpec)

/-- 'laws.FnExactMeanUnique', WHERE WHAT IT READS IS OF BULK AT MOST 1048576: true; the input reads as it did. -/
def fnExactMeanUniqueUptoRow : OpenClaim := { program := "ytpgobnhklnglhaagreatdoor", sum := "85bfa75486ecd5e0af51d02e9e7d8f1c7f3ee0ea4c4e007c7b95e21e300e9f0e", func := "loop.example/g01243/laws.FnExactMeanUnique", spec := "fnExactMeanUnique", inPlace := ["internal/bytealg.IndexByteString", "internal/bytealg.IndexString"], unfollowed := true, recurses := true, named := ["unicode/utf8.first", "unicode/utf8.acceptRanges", "internal/bytealg.MaxLen"], apart := false, laid := [("unicode/utf8.acceptRanges", laid_unicode_utf8_acceptRanges), ("unicode/utf8.first", laid_unicode_utf8_first)], narrowed := true }
def FnExactMeanUniqueUptoSaid : Prop := fnExactMeanUniqueUptoRow.holds Tryz.pinned (OpenSpec.upto fnExactMeanUniqueSpec)

/-- 'laws.FnExactNearWords', WHERE WHAT IT READS IS OF BULK AT MOST 1048576: true; the input reads as it did. -/
def fnExactNearWordsUptoRow : OpenClaim := { program := "ytpgobnhklnglhaagreatdoor", sum := "85bfa75486ecd5e0af51d02e9e7d8f1c7f3ee0ea4c4e007c7b95e21e300e9f0e", func := "loop.example/g01243/laws.FnExactNearWords", spec := "fnExactNearWords", inPlace := ["internal/bytealg.IndexByteString", "internal/bytealg.IndexString"], unfollowed := true, recurses := true, named := ["unicode/utf8.first", "unicode/utf8.acceptRanges", "internal/bytealg.MaxLen"], apart := false, laid := [("unicode/utf8.acceptRanges", laid_unicode_utf8_acceptRanges), ("unicode/utf8.first", laid_unicode_utf8_first)], narrowed := true }
def FnExactNearWordsUptoSaid : Prop := fnExactNearWordsUptoRow.holds Tryz.pinned (OpenSpec.upto fnExactNearWordsSpec)

end Rows
end Go.Proofs.YtpgobnhklnglhaaGreatDoor
