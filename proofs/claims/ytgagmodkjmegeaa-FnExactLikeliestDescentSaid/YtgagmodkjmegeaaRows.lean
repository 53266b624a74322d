/-
  No cell of these rows narrows 'for every input' (looked for: loops, veiled, ifaces, maps, wideKeys, modest, calm, conditions, laid).
  DERIVED. THE GIVEN ROWS OF THIS SEAT. 10 by the template 'for every input the law returns true; each argument reads behind the call as it read before'; 0 by the template 'total and deterministic' (their statements: YtgagmodkjmegeaaTotals.lean).
  GIVEN WITH THE SEED: the statements are not yours to turn. If you find one false, say at which input.
  Laid BY PROGRAM, IN A SANDBOX (cutbox-rows.mjs): the forced cells as the released guide's own fill.sh prints them over the translation cbf7f89e7cd35d04… (all of the seat's roots in one cut). By AI agents, Wed Nov 11 2026. No macro, syntax, notation, axiom, sorry.
-/
import Derived.Test.YtgagmodkjmegeaaChecked
import GoSem.Claim
import GoSem.ClaimJoined
import GoSem.ClaimMapViews
import Derived.JoinedTies
import Derived.KernelRfl
namespace Go.Proofs.Ytgagmodkjmegeaa
/- THE CELL 'sum', in the pinned program and in every row, IS THE sha256 OF THE DUMP (.gsa) THAT YtgagmodkjmegeaaProg.lean LOADS. Nothing in Lean hashes anything: it is a label: what it is worth is what the hold of that sum in a sandbox is worth. -/
noncomputable def Try.pinned : Pinned := { name := "ytgagmodkjmegeaa", sum := "cbf7f89e7cd35d0481b3afe47fa51ef9a71a8fe96681b65791a6cd933a880173", checked := Try.checked }
namespace Rows
def none {H : Type} : Left H := { results := [], args := [] }

/-- 'laws.FnExactMeanLetters': WHATEVER THE INPUT: true; the input reads as it did. -/
def fnExactMeanLettersSpec : ChangeSpec := { name := "fnExactMeanLetters", fn := fun _ => fun
  | [d] => { results := [.lit (.bool true)], args := [d] }
  | _ => none }
def fnExactMeanLettersRow : OpenClaim := { program := "ytgagmodkjmegeaa", sum := "cbf7f89e7cd35d0481b3afe47fa51ef9a71a8fe96681b65791a6cd933a880173", func := "loop.example/g01243/laws.FnExactMeanLetters", spec := "fnExactMeanLetters", unfollowed := true, recurses := true, apart := false }
def FnExactMeanLettersSaid : Prop := fnExactMeanLettersRow.holds Try.pinned (OpenSpec.ofChange fnExactMeanLettersSpec)

/-- ITS FALSE NEIGHBOUR: 'it returns false'. Refute it at one input. -/
def fnExactMeanLettersWrong : ChangeSpec := { name := "fnExactMeanLetters", fn := fun _ => fun
  | [d] => { results := [.lit (.bool false)], args := [d] }
  | _ => none }
def FnExactMeanLettersWrongFalsely : Prop := fnExactMeanLettersRow.holds Try.pinned (OpenSpec.ofChange fnExactMeanLettersWrong)

/-- 'laws.FnExactMeanCommon': WHATEVER THE INPUT: true; the input reads as it did. -/
def fnExactMeanCommonSpec : ChangeSpec := { name := "fnExactMeanCommon", fn := fun _ => fun
  | [d] => { results := [.lit (.bool true)], args := [d] }
  | _ => none }
def fnExactMeanCommonRow : OpenClaim := { program := "ytgagmodkjmegeaa", sum := "cbf7f89e7cd35d0481b3afe47fa51ef9a71a8fe96681b65791a6cd933a880173", func := "loop.example/g01243/laws.FnExactMeanCommon", spec := "fnExactMeanCommon", unfollowed := true, recurses := true, apart := false }
def FnExactMeanCommonSaid : Prop := fnExactMeanCommonRow.holds Try.pinned (OpenSpec.ofChange fnExactMeanCommonSpec)

/-- ITS FALSE NEIGHBOUR: 'it returns false'. Refute it at one input. -/
def fnExactMeanCommonWrong : ChangeSpec := { name := "fnExactMeanCommon", fn := fun _ => fun
  | [d] => { results := [.lit (.bool false)], args := [d] }
  | _ => none }
def FnExactMeanCommonWrongFalsely : Prop := fnExactMeanCommonRow.holds Try.pinned (OpenSpec.ofChange fnExactMeanCommonWrong)

/-- 'laws.FnExactChanceUnder': WHATEVER THE INPUT: true; the input reads as it did. -/
def fnExactChanceUnderSpec : ChangeSpec := { name := "fnExactChanceUnder", fn := fun _ => fun
  | [d1, d2] => { results := [.lit (.bool true)], args := [d1, d2] }
  | _ => none }
def fnExactChanceUnderRow : OpenClaim := { program := "ytgagmodkjmegeaa", sum := "cbf7f89e7cd35d0481b3afe47fa51ef9a71a8fe96681b65791a6cd933a880173", func := "loop.example/g01243/laws.FnExactChanceUnder", spec := "fnExactChanceUnder", unfollowed := true, recurses := true, apart := false }
def FnExactChanceUnderSaid : Prop := fnExactChanceUnderRow.holds Try.pinned (OpenSpec.ofChange fnExactChanceUnderSpec)

/-- ITS FALSE NEIGHBOUR: 'it returns false'. Refute it at one input. -/
def fnExactChanceUnderWrong : ChangeSpec := { name := "fnExactChanceUnder", fn := fun _ => fun
  | [d1, d2] => { results := [.lit (.bool false)], args := [d1, d2] }
  | _ => none }
def FnExactChanceUnderWrongFalsely : Prop := fnExactChanceUnderRow.holds Try.pinned (OpenSpec.ofChange fnExactChanceUnderWrong)

/-- 'laws.FnExactChanceSameStart': WHATEVER THE INPUT: true; the input reads as it did. -/
def fnExactChanceSameStartSpec : ChangeSpec := { name := "fnExactChanceSameStart", fn := fun _ => fun
  | [d1, d2] => { results := [.lit (.bool true)], args := [d1, d2] }
  | _ => none }
def fnExactChanceSameStartRow : OpenClaim := { program := "ytgagmodkjmegeaa", sum := "cbf7f89e7cd35d0481b3afe47fa51ef9a71a8fe96681b65791a6cd933a880173", func := "loop.example/g01243/laws.FnExactChanceSameStart", spec := "fnExactChanceSameStart", unfollowed := true, recurses := true, apart := false }
def FnExactChanceSameStartSaid : Prop := fnExactChanceSameStartRow.holds Try.pinned (OpenSpec.ofChange fnExactChanceSameStartSpec)

/-- ITS FALSE NEIGHBOUR: 'it returns false'. Refute it at one input. -/
def fnExactChanceSameStartWrong : ChangeSpec := { name := "fnExactChanceSameStart", fn := fun _ => fun
  | [d1, d2] => { results := [.lit (.bool false)], args := [d1, d2] }
  | _ => none }
def FnExactChanceSameStartWrongFalsely : Prop := fnExactChanceSameStartRow.holds Try.pinned (OpenSpec.ofChange fnExactChanceSameStartWrong)

/-- 'laws.FnExactChanceHit': WHATEVER THE INPUT: true; the input reads as it did. -/
def fnExactChanceHitSpec : ChangeSpec := { name := "fnExactChanceHit", fn := fun _ => fun
  | [d1, d2, d3] => { results := [.lit (.bool true)], args := [d1, d2, d3] }
  | _ => none }
def fnExactChanceHitRow : OpenClaim := { program := "ytgagmodkjmegeaa", sum := "cbf7f89e7cd35d0481b3afe47fa51ef9a71a8fe96681b65791a6cd933a880173", func := "loop.example/g01243/laws.FnExactChanceHit", spec := "fnExactChanceHit", unfollowed := true, recurses := true, apart := false }
def FnExactChanceHitSaid : Prop := fnExactChanceHitRow.holds Try.pinned (OpenSpec.ofChange fnExactChanceHitSpec)

/-- ITS FALSE NEIGHBOUR: 'it returns false'. Refute it at one input. -/
def fnExactChanceHitWrong : ChangeSpec := { name := "fnExactChanceHit", fn := fun _ => fun
  | [d1, d2, d3] => { results := [.lit (.bool false)], args := [d1, d2, d3] }
  | _ => none }
def FnExactChanceHitWrongFalsely : Prop := fnExactChanceHitRow.holds Try.pinned (OpenSpec.ofChange fnExactChanceHitWrong)

/-- 'laws.FnExactBestLetter': WHATEVER THE INPUT: true; the input reads as it did. -/
def fnExactBestLetterSpec : ChangeSpec := { name := "fnExactBestLetter", fn := fun _ => fun
  | [d] => { results := [.lit (.bool true)], args := [d] }
  | _ => none }
def fnExactBestLetterRow : OpenClaim := { program := "ytgagmodkjmegeaa", sum := "cbf7f89e7cd35d0481b3afe47fa51ef9a71a8fe96681b65791a6cd933a880173", func := "loop.example/g01243/laws.FnExactBestLetter", spec := "fnExactBestLetter", unfollowed := true, recurses := true, apart := false }
def FnExactBestLetterSaid : Prop := fnExactBestLetterRow.holds Try.pinned (OpenSpec.ofChange fnExactBestLetterSpec)

/-- ITS FALSE NEIGHBOUR: 'it returns false'. Refute it at one input. -/
def fnExactBestLetterWrong : ChangeSpec := { name := "fnExactBestLetter", fn := fun _ => fun
  | [d] => { results := [.lit (.bool false)], args := [d] }
  | _ => none }
def FnExactBestLetterWrongFalsely : Prop := fnExactBestLetterRow.holds Try.pinned (OpenSpec.ofChange fnExactBestLetterWrong)

/-- 'laws.FnExactLikeliestDescent': WHATEVER THE INPUT: true; the input reads as it did. -/
def fnExactLikeliestDescentSpec : ChangeSpec := { name := "fnExactLikeliestDescent", fn := fun _ => fun
  | [d] => { results := [.lit (.bool true)], args := [d] }
  | _ => none }
def fnExactLikeliestDescentRow : OpenClaim := { program := "ytgagmodkjmegeaa", sum := "cbf7f89e7cd35d0481b3afe47fa51ef9a71a8fe96681b65791a6cd933a880173", func := "loop.example/g01243/laws.FnExactLikeliestDescent", spec := "fnExactLikeliestDescent", unfollowed := true, recurses := true, apart := false }
def FnExactLikeliestDescentSaid : Prop := fnExactLikeliestDescentRow.holds Try.pinned (OpenSpec.ofChange fnExactLikeliestDescentSpec)

/-- ITS FALSE NEIGHBOUR: 'it returns false'. Refute it at one input. -/
def fnExactLikeliestDescentWrong : ChangeSpec := { name := "fnExactLikeliestDescent", fn := fun _ => fun
  | [d] => { results := [.lit (.bool false)], args := [d] }
  | _ => none }
def FnExactLikeliestDescentWrongFalsely : Prop := fnExactLikeliestDescentRow.holds Try.pinned (OpenSpec.ofChange fnExactLikeliestDescentWrong)

/-- 'laws.FnExactChanceBegins': WHATEVER THE INPUT: true; the input reads as it did. -/
def fnExactChanceBeginsSpec : ChangeSpec := { name := "fnExactChanceBegins", fn := fun _ => fun
  | [d1, d2, d3] => { results := [.lit (.bool true)], args := [d1, d2, d3] }
  | _ => none }
def fnExactChanceBeginsRow : OpenClaim := { program := "ytgagmodkjmegeaa", sum := "cbf7f89e7cd35d0481b3afe47fa51ef9a71a8fe96681b65791a6cd933a880173", func := "loop.example/g01243/laws.FnExactChanceBegins", spec := "fnExactChanceBegins", unfollowed := true, recurses := true, apart := false }
def FnExactChanceBeginsSaid : Prop := fnExactChanceBeginsRow.holds Try.pinned (OpenSpec.ofChange fnExactChanceBeginsSpec)

/-- ITS FALSE NEIGHBOUR: 'it returns false'. Refute it at one input. -/
def fnExactChanceBeginsWrong : ChangeSpec := { name := "fnExactChanceBegins", fn := fun _ => fun
  | [d1, d2, d3] => { results := [.lit (.bool false)], args := [d1, d2, d3] }
  | _ => none }
def FnExactChanceBeginsWrongFalsely : Prop := fnExactChanceBeginsRow.holds Try.pinned (OpenSpec.ofChange fnExactChanceBeginsWrong)

/-- 'laws.FnExactMeanDescent': WHATEVER THE INPUT: true; the input reads as it did. -/
def fnExactMeanDescentSpec : ChangeSpec := { name := "fnExactMeanDescent", fn := fun _ => fun
  | [d] => { results := [.lit (.bool true)], args := [d] }
  | _ => none }
def fnExactMeanDescentRow : OpenClaim := { program := "ytgagmodkjmegeaa", sum := "cbf7f89e7cd35d0481b3afe47fa51ef9a71a8fe96681b65791a6cd933a880173", func := "loop.example/g01243/laws.FnExactMeanDescent", spec := "fnExactMeanDescent", unfollowed := true, recurses := true, apart := false }
def FnExactMeanDescentSaid : Prop := fnExactMeanDescentRow.holds Try.pinned (OpenSpec.ofChange fnExactMeanDescentSpec)

/-- ITS FALSE NEIGHBOUR: 'it returns false'. Refute it at one input. -/
def fnExactMeanDescentWrong : ChangeSpec := { name := "fnExactMeanDescent", fn := fun _ => fun
  | [d] => { results := [.lit (.bool false)], args := [d] }
  | _ => none }
def FnExactMeanDescentWrongFalsely : Prop := fnExactMeanDescentRow.holds Try.pinned (OpenSpec.ofChange fnExactMeanDescentWrong)

/-- 'laws.FnExactHaveEqualEnds': WHATEVER THE INPUT: true; the input reads as it did. -/
def fnExactHaveEqualEndsSpec : ChangeSpec := { name := "fnExactHaveEqualEnds", fn := fun _ => fun
  | [d1, d2, d3] => { results := [.lit (.bool true)], args := [d1, d2, d3] }
  | _ => none }
def fnExactHaveEqualEndsRow : OpenClaim := { program := "ytgagmodkjmegeaa", sum := "cbf7f89e7cd35d0481b3afe47fa51ef9a71a8fe96681b65791a6cd933a880173", func := "loop.example/g01243/laws.FnExactHaveEqualEnds", spec := "fnExactHaveEqualEnds", unfollowed := true, recurses := true, apart := false }
def FnExactHaveEqualEndsSaid : Prop := fnExactHaveEqualEndsRow.holds Try.pinned (OpenSpec.ofChange fnExactHaveEqualEndsSpec)

/-- ITS FALSE NEIGHBOUR: 'it returns false'. Refute it at one input. -/
def fnExactHaveEqualEndsWrong : ChangeSpec := { name := "fnExactHaveEqualEnds", fn := fun _ => fun
  | [d1, d2, d3] => { results := [.lit (.bool false)], args := [d1, d2, d3] }
  | _ => none }
def FnExactHaveEqualEndsWrongFalsely : Prop := fnExactHaveEqualEndsRow.holds Try.pinned (OpenSpec.ofChange fnExactHaveEqualEndsWrong)

/- THE SECOND FORM. 'bulk': how many values and letters a reading holds, each counted each time it is reached (what is shared counts as often as it is met; a slice's spare places count too). A statement '..UptoSaid' is the law's where the arguments, and the package variables that the reading takes, are together of bulk at most 1048576: NARROWER than '..Said'. Prove '..Said' where nothing that the law and all that it calls make is longer than what came in: it says more and counts as full. Else prove '..UptoSaid'. A law counts once. -/
mutual
def uptoBulk {H : Type} : DataW H → Nat
  | .lit (.string bytes) => bytes.length + 1
  | .lit _ => 1
  | .nil => 1
  | .ptr d => uptoBulk d + 1
  | .slice elems spare => uptoBulkAll elems + uptoBulkAll spare + 1
  | .agg parts => uptoBulkAll parts + 1
  | .iface _ d => uptoBulk d + 1
  | .map entries => uptoBulkEntries entries + 1
  | .held _ => 1
def uptoBulkAll {H : Type} : List (DataW H) → Nat
  | [] => 0
  | d :: r => uptoBulk d + uptoBulkAll r
def uptoBulkEntries {H : Type} : List (Lit × DataW H) → Nat
  | [] => 0
  | x :: r => uptoBulkEntry x + uptoBulkEntries r
def uptoBulkEntry {H : Type} : Lit × DataW H → Nat
  | (.string bytes, d) => bytes.length + uptoBulk d + 1
  | (_, d) => uptoBulk d + 1
 end
def uptoSmall : (H : Type) → List (DataW H) → Bool := fun _ ds => decide (uptoBulkAll ds ≤ 1048576)
def OpenSpec.upto (s : _root_.Go.ChangeSpec) : _root_.Go.OpenSpec := { _root_.Go.OpenSpec.ofChange s with cond := some uptoSmall }

/-- 'laws.FnExactMeanLetters', WHERE WHAT IT READS IS OF BULK AT MOST 1048576: true; the input reads as it did. -/
def fnExactMeanLettersUptoRow : OpenClaim := { program := "ytgagmodkjmegeaa", sum := "cbf7f89e7cd35d0481b3afe47fa51ef9a71a8fe96681b65791a6cd933a880173", func := "loop.example/g01243/laws.FnExactMeanLetters", spec := "fnExactMeanLetters", unfollowed := true, recurses := true, apart := false, narrowed := true }
def FnExactMeanLettersUptoSaid : Prop := fnExactMeanLettersUptoRow.holds Try.pinned (OpenSpec.upto fnExactMeanLettersSpec)

/-- 'laws.FnExactMeanCommon', WHERE WHAT IT READS IS OF BULK AT MOST 1048576: true; the input reads as it did. -/
def fnExactMeanCommonUptoRow : OpenClaim := { program := "ytgagmodkjmegeaa", sum := "cbf7f89e7cd35d0481b3afe47fa51ef9a71a8fe96681b65791a6cd933a880173", func := "loop.example/g01243/laws.FnExactMeanCommon", spec := "fnExactMeanCommon", unfollowed := true, recurses := true, apart := false, narrowed := true }
def FnExactMeanCommonUptoSaid : Prop := fnExactMeanCommonUptoRow.holds Try.pinned (OpenSpec.upto fnExactMeanCommonSpec)

/-- 'laws.FnExactChanceUnder', WHERE WHAT IT READS IS OF BULK AT MOST 1048576: true; the input reads as it did. -/
def fnExactChanceUnderUptoRow : OpenClaim := { program := "ytgagmodkjmegeaa", sum := "cbf7f89e7cd35d0481b3afe47fa51ef9a71a8fe96681b65791a6cd933a880173", func := "loop.example/g01243/laws.FnExactChanceUnder", spec := "fnExactChanceUnder", unfollowed := true, recurses := true, apart := false, narrowed := true }
def FnExactChanceUnderUptoSaid : Prop := fnExactChanceUnderUptoRow.holds Try.pinned (OpenSpec.upto fnExactChanceUnderSpec)

/-- 'laws.FnExactChanceSameStart', WHERE WHAT IT READS IS OF BULK AT MOST 1048576: true; the input reads as it did. -/
def fnExactChanceSameStartUptoRow : OpenClaim := { program := "ytgagmodkjmegeaa", sum := "cbf7f89e7cd35d0481b3afe47fa51ef9a71a8fe96681b65791a6cd933a880173", func := "loop.example/g01243/laws.FnExactChanceSameStart", spec := "fnExactChanceSameStart", unfollowed := true, recurses := true, apart := false, narrowed := true }
def FnExactChanceSameStartUptoSaid : Prop := fnExactChanceSameStartUptoRow.holds Try.pinned (OpenSpec.upto fnExactChanceSameStartSpec)

/-- 'laws.FnExactChanceHit', WHERE WHAT IT READS IS OF BULK AT MOST 1048576: true; the input reads as it did. -/
def fnExactChanceHitUptoRow : OpenClaim := { program := "ytgagmodkjmegeaa", sum := "cbf7f89e7cd35d0481b3afe47fa51ef9a71a8fe96681b65791a6cd933a880173", func := "loop.example/g01243/laws.FnExactChanceHit", spec := "fnExactChanceHit", unfollowed := true, recurses := true, apart := false, narrowed := true }
def FnExactChanceHitUptoSaid : Prop := fnExactChanceHitUptoRow.holds Try.pinned (OpenSpec.upto fnExactChanceHitSpec)

/-- 'laws.FnExactBestLetter', WHERE WHAT IT READS IS OF BULK AT MOST 1048576: true; the input reads as it did. -/
def fnExactBestLetterUptoRow : OpenClaim := { program := "ytgagmodkjmegeaa", sum := "cbf7f89e7cd35d0481b3afe47fa51ef9a71a8fe96681b65791a6cd933a880173", func := "loop.example/g01243/laws.FnExactBestLetter", spec := "fnExactBestLetter", unfollowed := true, recurses := true, apart := false, narrowed := true }
def FnExactBestLetterUptoSaid : Prop := fnExactBestLetterUptoRow.holds Try.pinned (OpenSpec.upto fnExactBestLetterSpec)

/-- 'laws.FnExactLikeliestDescent', WHERE WHAT IT READS IS OF BULK AT MOST 1048576: true; the input reads as it did. -/
def fnExactLikeliestDescentUptoRow : OpenClaim := { program := "ytgagmodkjmegeaa", sum := "cbf7f89e7cd35d0481b3afe47fa51ef9a71a8fe96681b65791a6cd933a880173", func := "loop.example/g01243/laws.FnExactLikeliestDescent", spec := "fnExactLikeliestDescent", unfollowed := true, recurses := true, apart := false, narrowed := true }
def FnExactLikeliestDescentUptoSaid : Prop := fnExactLikeliestDescentUptoRow.holds Try.pinned (OpenSpec.upto fnExactLikeliestDescentSpec)

/-- 'laws.FnExactChanceBegins', WHERE WHAT IT READS IS OF BULK AT MOST 1048576: true; the input reads as it did. -/
def fnExactChanceBeginsUptoRow : OpenClaim := { program := "ytgagmodkjmegeaa", sum := "cbf7f89e7cd35d0481b3afe47fa51ef9a71a8fe96681b65791a6cd933a880173", func := "loop.example/g01243/laws.FnExactChanceBegins", spec := "fnExactChanceBegins", unfollowed := true, recurses := true, apart := false, narrowed := true }
def FnExactChanceBeginsUptoSaid : Prop := fnExactChanceBeginsUptoRow.holds Try.pinned (OpenSpec.upto fnExactChanceBeginsSpec)

/-- 'laws.FnExactMeanDescent', WHERE WHAT IT READS IS OF BULK AT MOST 1048576: true; the input reads as it did. -/
def fnExactMeanDescentUptoRow : OpenClaim := { program := "ytgagmodkjmegeaa", sum := "cbf7f89e7cd35d0481b3afe47fa51ef9a71a8fe96681b65791a6cd933a880173", func := "loop.example/g01243/laws.FnExactMeanDescent", spec := "fnExactMeanDescent", unfollowed := true, recurses := true, apart := false, narrowed := true }
def FnExactMeanDescentUptoSaid : Prop := fnExactMeanDescentUptoRow.holds Try.pinned (OpenSpec.upto fnExactMeanDescentSpec)

/-- 'laws.FnExactHaveEqualEnds', WHERE WHAT IT READS IS OF BULK AT MOST 1048576: true; the input reads as it did. -/
def fnExactHaveEqualEndsUptoRow : OpenClaim := { program := "ytgagmodkjmegeaa", sum := "cbf7f89e7cd35d0481b3afe47fa51ef9a71a8fe96681b65791a6cd933a880173", func := "loop.example/g01243/laws.FnExactHaveEqualEnds", spec := "fnExactHaveEqualEnds", unfollowed := true, recurses := true, apart := false, narrowed := true }
def FnExactHaveEqualEndsUptoSaid : Prop := fnExactHaveEqualEndsUptoRow.holds Try.pinned (OpenSpec.upto fnExactHaveEqualEndsSpec)

end Rows
end Go.Proofs.Ytgagmodkjmegeaa
