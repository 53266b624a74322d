/-
  NARROWER THAN 'FOR EVERY INPUT', by the rows' own cells (each row's printed sentence says how): FnExactCommonSubstring: laid · FnExactSubstringTrie: laid · FnExactEditsOf: laid · FnExactNearestWord: laid.
  DERIVED. THE GIVEN ROWS OF THIS SEAT. 4 by the template 'for every input the law returns true; each argument reads behind the call as it read before'; 0 by the template 'total and deterministic' (their statements: YtpgobnhklnglhaaDoorTotals.lean).
  GIVEN WITH THE SEED: the statements are not yours to turn. If you find one false, say at which input.
  Laid BY PROGRAM, IN A SANDBOX (cutbox-rows.mjs): the forced cells as the released guide's own fill.sh prints them over the translation 372ac9827909004c… (all of the seat's roots in one cut). By AI agents, Wed Nov 11 2026. No macro, syntax, notation, axiom, sorry.
-/
import Derived.Test.YtpgobnhklnglhaaDoorChecked
import GoSem.PinnedTables
import GoSem.Claim
import GoSem.ClaimJoined
import GoSem.ClaimMapViews
import Derived.JoinedTies
import Derived.KernelRfl
namespace Go.Proofs.YtpgobnhklnglhaaDoor
/- THE CELL 'sum', in the pinned program and in every row, IS THE sha256 OF THE DUMP (.gsa) THAT YtpgobnhklnglhaaDoorProg.lean LOADS. Nothing in Lean hashes anything: it is a label: what it is worth is what the hold of that sum in a sandbox is worth. -/
noncomputable def Tryd.pinned : Pinned := { name := "ytpgobnhklnglhaadoor", sum := "372ac9827909004cd9f32ec493307a91c1d9f7e0c2fa48e49416e71fab429e57", checked := Tryd.checked }
namespace Rows
def none {H : Type} : Left H := { results := [], args := [] }

/- WHAT THE LISTED PACKAGE-LEVEL VARIABLES READ AS WHEN THE CALL BEGINS. Each datum BY PROGRAM (the guide's laid-datum.mjs) off the statement by which the dump's own 'gosem.cut.vars' lays the variable. In a bare row this is a premise. The card (YtpgobnhklnglhaaDoorCards.lean) ties it to the program's text. -/
def laid_unicode_utf8_acceptRanges {H : Type} : DataW H := .agg [.agg [.lit (.int .u8 128), .lit (.int .u8 191)], .agg [.lit (.int .u8 160), .lit (.int .u8 191)], .agg [.lit (.int .u8 128), .lit (.int .u8 159)], .agg [.lit (.int .u8 144), .lit (.int .u8 191)], .agg [.lit (.int .u8 128), .lit (.int .u8 143)], .agg [.lit (.int .u8 0), .lit (.int .u8 0)], .agg [.lit (.int .u8 0), .lit (.int .u8 0)], .agg [.lit (.int .u8 0), .lit (.int .u8 0)], .agg [.lit (.int .u8 0), .lit (.int .u8 0)], .agg [.lit (.int .u8 0), .lit (.int .u8 0)], .agg [.lit (.int .u8 0), .lit (.int .u8 0)], .agg [.lit (.int .u8 0), .lit (.int .u8 0)], .agg [.lit (.int .u8 0), .lit (.int .u8 0)], .agg [.lit (.int .u8 0), .lit (.int .u8 0)], .agg [.lit (.int .u8 0), .lit (.int .u8 0)], .agg [.lit (.int .u8 0), .lit (.int .u8 0)]]
/-- One of Go's own tables, pinned by name: the form's constant. -/
def laid_unicode_utf8_first : DataW Unit := Go.Pinned.utf8First

/-- 'laws.FnExactCommonSubstring': WHATEVER THE INPUT: true; the input reads as it did. -/
def fnExactCommonSubstringSpec : ChangeSpec := { name := "fnExactCommonSubstring", fn := fun _ => fun
  | [d1, d2] => { results := [.lit (.bool true)], args := [d1, d2] }
  | _ => none }
def fnExactCommonSubstringRow : OpenClaim := { program := "ytpgobnhklnglhaadoor", sum := "372ac9827909004cd9f32ec493307a91c1d9f7e0c2fa48e49416e71fab429e57", func := "loop.example/g01243/laws.FnExactCommonSubstring", spec := "fnExactCommonSubstring", inPlace := ["internal/bytealg.IndexByteString", "internal/bytealg.IndexString"], unfollowed := true, recurses := true, named := ["internal/bytealg.MaxLen", "unicode/utf8.first", "unicode/utf8.acceptRanges"], apart := false, laid := [("unicode/utf8.acceptRanges", laid_unicode_utf8_acceptRanges), ("unicode/utf8.first", laid_unicode_utf8_first)] }
def FnExactCommonSubstringSaid : Prop := fnExactCommonSubstringRow.holds Tryd.pinned (OpenSpec.ofChange fnExactCommonSubstringSpec)

/-- ITS FALSE NEIGHBOUR: 'it returns false'. Refute it at one input. -/
def fnExactCommonSubstringWrong : ChangeSpec := { name := "fnExactCommonSubstring", fn := fun _ => fun
  | [d1, d2] => { results := [.lit (.bool false)], args := [d1, d2] }
  | _ => none }
def FnExactCommonSubstringWrongFalsely : Prop := fnExactCommonSubstringRow.holds Tryd.pinned (OpenSpec.ofChange fnExactCommonSubstringWrong)

/-- 'laws.FnExactSubstringTrie': WHATEVER THE INPUT: true; the input reads as it did. -/
def fnExactSubstringTrieSpec : ChangeSpec := { name := "fnExactSubstringTrie", fn := fun _ => fun
  | [d] => { results := [.lit (.bool true)], args := [d] }
  | _ => none }
def fnExactSubstringTrieRow : OpenClaim := { program := "ytpgobnhklnglhaadoor", sum := "372ac9827909004cd9f32ec493307a91c1d9f7e0c2fa48e49416e71fab429e57", func := "loop.example/g01243/laws.FnExactSubstringTrie", spec := "fnExactSubstringTrie", inPlace := ["internal/bytealg.IndexByteString", "internal/bytealg.IndexString"], unfollowed := true, recurses := true, named := ["unicode/utf8.first", "unicode/utf8.acceptRanges", "internal/bytealg.MaxLen"], apart := false, laid := [("unicode/utf8.acceptRanges", laid_unicode_utf8_acceptRanges), ("unicode/utf8.first", laid_unicode_utf8_first)] }
def FnExactSubstringTrieSaid : Prop := fnExactSubstringTrieRow.holds Tryd.pinned (OpenSpec.ofChange fnExactSubstringTrieSpec)

/-- ITS FALSE NEIGHBOUR: 'it returns false'. Refute it at one input. -/
def fnExactSubstringTrieWrong : ChangeSpec := { name := "fnExactSubstringTrie", fn := fun _ => fun
  | [d] => { results := [.lit (.bool false)], args := [d] }
  | _ => none }
def FnExactSubstringTrieWrongFalsely : Prop := fnExactSubstringTrieRow.holds Tryd.pinned (OpenSpec.ofChange fnExactSubstringTrieWrong)

/-- 'laws.FnExactEditsOf': WHATEVER THE INPUT: true; the input reads as it did. -/
def fnExactEditsOfSpec : ChangeSpec := { name := "fnExactEditsOf", fn := fun _ => fun
  | [d] => { results := [.lit (.bool true)], args := [d] }
  | _ => none }
def fnExactEditsOfRow : OpenClaim := { program := "ytpgobnhklnglhaadoor", sum := "372ac9827909004cd9f32ec493307a91c1d9f7e0c2fa48e49416e71fab429e57", func := "loop.example/g01243/laws.FnExactEditsOf", spec := "fnExactEditsOf", inPlace := ["internal/bytealg.IndexByteString", "internal/bytealg.IndexString", "internal/bytealg.CountString"], unfollowed := true, recurses := true, named := ["unicode/utf8.first", "unicode/utf8.acceptRanges", "internal/bytealg.MaxLen"], apart := false, laid := [("unicode/utf8.acceptRanges", laid_unicode_utf8_acceptRanges), ("unicode/utf8.first", laid_unicode_utf8_first)] }
def FnExactEditsOfSaid : Prop := fnExactEditsOfRow.holds Tryd.pinned (OpenSpec.ofChange fnExactEditsOfSpec)

/-- ITS FALSE NEIGHBOUR: 'it returns false'. Refute it at one input. -/
def fnExactEditsOfWrong : ChangeSpec := { name := "fnExactEditsOf", fn := fun _ => fun
  | [d] => { results := [.lit (.bool false)], args := [d] }
  | _ => none }
def FnExactEditsOfWrongFalsely : Prop := fnExactEditsOfRow.holds Tryd.pinned (OpenSpec.ofChange fnExactEditsOfWrong)

/-- 'laws.FnExactNearestWord': WHATEVER THE INPUT: true; the input reads as it did. -/
def fnExactNearestWordSpec : ChangeSpec := { name := "fnExactNearestWord", fn := fun _ => fun
  | [d1, d2] => { results := [.lit (.bool true)], args := [d1, d2] }
  | _ => none }
def fnExactNearestWordRow : OpenClaim := { program := "ytpgobnhklnglhaadoor", sum := "372ac9827909004cd9f32ec493307a91c1d9f7e0c2fa48e49416e71fab429e57", func := "loop.example/g01243/laws.FnExactNearestWord", spec := "fnExactNearestWord", inPlace := ["internal/bytealg.IndexByteString", "internal/bytealg.IndexString"], unfollowed := true, recurses := true, named := ["unicode/utf8.first", "unicode/utf8.acceptRanges", "internal/bytealg.MaxLen"], apart := false, laid := [("unicode/utf8.acceptRanges", laid_unicode_utf8_acceptRanges), ("unicode/utf8.first", laid_unicode_utf8_first)] }
def FnExactNearestWordSaid : Prop := fnExactNearestWordRow.holds Tryd.pinned (OpenSpec.ofChange fnExactNearestWordSpec)

/-- ITS FALSE NEIGHBOUR: 'it returns false'. Refute it at one input. -/
def fnExactNearestWordWrong : ChangeSpec := { name := "fnExactNearestWord", fn := fun _ => fun
  | [d1, d2] => { results := [.lit (.bool false)], args := [d1, d2] }
  | _ => none }
def FnExactNearestWordWrongFalsely : Prop := fnExactNearestWordRow.holds Tryd.pinned (OpenSpec.ofChange fnExactNearestWordWrong)

/- THE SECOND FORM. 'bulk': how many values and letters a reading holds, each counted each time it is reached (what is shared counts as often as it is met; a slice's spare places count too). A statement '..UptoSaid' is the law's where the arguments, and the package variables that the reading takes, are together of bulk at most 1048576: NARROWER than '..Said'. Prove '..Said' where nothing that the law and all that it calls make is longer than what came in: it says more and counts as full. Else prove '..UptoSaid'. A law counts once. -/
mutual
def uptoBulk {H : Type} : DataW H → Nat
  | .lit (.string bytes) => bytes.length + 1
  | .lit _ => 1
  | .nil => 1
  | .ptr d => uptoBulk d + 1
  | .slice elems spare => uptoBulkAll elems + uptoBulkAll spare + 1
  | .agg parts => uptoBulkAll parts + 1
  | .iface _ d => uptoBulk d + 1
  | .map entries => uptoBulkEntries entries + 1
  | .held _ => 1
def uptoBulkAll {H : Type} : List (DataW H) → Nat
  | [] => 0
  | d :: r => uptoBulk d + uptoBulkAll r
def uptoBulkEntries {H : Type} : List (Lit × DataW H) → Nat
  | [] => 0
  | x :: r => uptoBulkEntry x + uptoBulkEntries r
def uptoBulkEntry {H : Type} : Lit × DataW H → Nat
  | (.string bytes, d) => bytes.length + uptoBulk d + 1
  | (_, d) => uptoBulk d + 1
 end
def uptoSmall : (H : Type) → List (DataW H) → Bool := fun _ ds => decide (uptoBulkAll ds ≤ 1048576)
def OpenSpec.upto (s : _root_.Go.ChangeSpec) : _root_.Go.OpenSpec := { _root_.Go.OpenSpec.ofChange s with cond := some uptoSmall }

/-- 'laws.FnExactCommonSubstring', WHERE WHAT IT READS IS OF BULK AT MOST 1048576: true; the input reads as it did. -/
def fnExactCommonSubstringUptoRow : OpenClaim := { program := "ytpgobnhklnglhaadoor", sum := "372ac9827909004cd9f32ec493307a91c1d9f7e0c2fa48e49416e71fab429e57", func := "loop.example/g01243/laws.FnExactCommonSubstring", spec := "fnExactCommonSubstring", inPlace := ["internal/bytealg.IndexByteString", "internal/bytealg.IndexString"], unfollowed := true, recurses := true, named := ["internal/bytealg.MaxLen", "unicode/utf8.first", "unicode/utf8.acceptRanges"], apart := false, laid := [("unicode/utf8.acceptRanges", laid_unicode_utf8_acceptRanges), ("unicode/utf8.first", laid_unicode_utf8_first)], narrowed := true }
def FnExactCommonSubstringUptoSaid : Prop := fnExactCommonSubstringUptoRow.holds Tryd.pinned (OpenSpec.upto fnExactCommonSubstringSpec)

/-- 'laws.FnExactSubstringTrie', WHERE WHAT IT READS IS OF BULK AT MOST 1048576: true; the input reads as it did. -/
def fnExactSubstringTrieUptoRow : OpenClaim := { program := "ytpgobnhklnglhaadoor", sum := "372ac9827909004cd9f32ec493307a91c1d9f7e0c2fa48e49416e71fab429e57", func := "loop.example/g01243/laws.FnExactSubstringTrie", spec := "fnExactSubstringTrie", inPlace := ["internal/bytealg.IndexByteString", "internal/bytealg.IndexString"], unfollowed := true, recurses := true, named := ["unicode/utf8.first", "unicode/utf8.acceptRanges", "internal/bytealg.MaxLen"], apart := false, laid := [("unicode/utf8.acceptRanges", laid_unicode_utf8_acceptRanges), ("unicode/utf8.first", laid_unicode_utf8_first)], narrowed := true }
def FnExactSubstringTrieUptoSaid : Prop := fnExactSubstringTrieUptoRow.holds Tryd.pinned (OpenSpec.upto fnExactSubstringTrieSpec)

/-- 'laws.FnExactEditsOf', WHERE WHAT IT READS IS OF BULK AT MOST 1048576: true; the input reads as it did. -/
def fnExactEditsOfUptoRow : OpenClaim := { program := "ytpgobnhklnglhaadoor", sum := "372ac9827909004cd9f32ec493307a91c1d9f7e0c2fa48e49416e71fab429e57", func := "loop.example/g01243/laws.FnExactEditsOf", spec := "fnExactEditsOf", inPlace := ["internal/bytealg.IndexByteString", "internal/bytealg.IndexString", "internal/bytealg.CountString"], unfollowed := true, recurses := true, named := ["unicode/utf8.first", "unicode/utf8.acceptRanges", "internal/bytealg.MaxLen"], apart := false, laid := [("unicode/utf8.acceptRanges", laid_unicode_utf8_acceptRanges), ("unicode/utf8.first", laid_unicode_utf8_first)], narrowed := true }
def FnExactEditsOfUptoSaid : Prop := fnExactEditsOfUptoRow.holds Tryd.pinned (OpenSpec.upto fnExactEditsOfSpec)

/-- 'laws.FnExactNearestWord', WHERE WHAT IT READS IS OF BULK AT MOST 1048576: true; the input reads as it did. -/
def fnExactNearestWordUptoRow : OpenClaim := { program := "ytpgobnhklnglhaadoor", sum := "372ac9827909004cd9f32ec493307a91c1d9f7e0c2fa48e49416e71fab429e57", func := "loop.example/g01243/laws.FnExactNearestWord", spec := "fnExactNearestWord", inPlace := ["internal/bytealg.IndexByteString", "internal/bytealg.IndexString"], unfollowed := true, recurses := true, named := ["unicode/utf8.first", "unicode/utf8.acceptRanges", "internal/bytealg.MaxLen"], apart := false, laid := [("unicode/utf8.acceptRanges", laid_unicode_utf8_acceptRanges), ("unicode/utf8.first", laid_unicode_utf8_first)], narrowed := true }
def FnExactNearestWordUptoSaid : Prop := fnExactNearestWordUptoRow.holds Tryd.pinned (OpenSpec.upto fnExactNearestWordSpec)

end Rows
end Go.Proofs.YtpgobnhklnglhaaDoor
