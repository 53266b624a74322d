/-
  No cell of these rows narrows 'for every input' (looked for: loops, veiled, ifaces, maps, wideKeys, modest, calm, conditions, laid).
  DERIVED. THE GIVEN ROWS OF THIS SEAT. 4 by the template 'for every input the law returns true; each argument reads behind the call as it read before'; 0 by the template 'total and deterministic' (their statements: YtgflgficfgieaaaTotals.lean).
  GIVEN WITH THE SEED: the statements are not yours to turn. If you find one false, say at which input.
  Laid BY PROGRAM, IN A SANDBOX (cutbox-rows.mjs): the forced cells as the released guide's own fill.sh prints them over the translation b7742f2e129ce822… (all of the seat's roots in one cut). By AI agents, Wed Nov 11 2026. No macro, syntax, notation, axiom, sorry.
-/
import Derived.Test.YtgflgficfgieaaaChecked
import GoSem.Claim
import GoSem.ClaimJoined
import GoSem.ClaimMapViews
import Derived.JoinedTies
import Derived.KernelRfl
namespace Go.Proofs.Ytgflgficfgieaaa
/- THE CELL 'sum', in the pinned program and in every row, IS THE sha256 OF THE DUMP (.gsa) THAT YtgflgficfgieaaaProg.lean LOADS. Nothing in Lean hashes anything: it is a label: what it is worth is what the hold of that sum in a sandbox is worth. -/
noncomputable def Try.pinned : Pinned := { name := "ytgflgficfgieaaa", sum := "b7742f2e129ce822d2bbaaa765a249b8e298d9e8e3ac2d60b7c959fb6190d6e0", checked := Try.checked }
namespace Rows
def none {H : Type} : Left H := { results := [], args := [] }

/-- 'laws.FnExactCountShapes': WHATEVER THE INPUT: true; the input reads as it did. -/
def fnExactCountShapesSpec : ChangeSpec := { name := "fnExactCountShapes", fn := fun _ => fun
  | [d] => { results := [.lit (.bool true)], args := [d] }
  | _ => none }
def fnExactCountShapesRow : OpenClaim := { program := "ytgflgficfgieaaa", sum := "b7742f2e129ce822d2bbaaa765a249b8e298d9e8e3ac2d60b7c959fb6190d6e0", func := "loop.example/g01243/laws.FnExactCountShapes", spec := "fnExactCountShapes", apart := false }
def FnExactCountShapesSaid : Prop := fnExactCountShapesRow.holds Try.pinned (OpenSpec.ofChange fnExactCountShapesSpec)

/-- ITS FALSE NEIGHBOUR: 'it returns false'. Refute it at one input. -/
def fnExactCountShapesWrong : ChangeSpec := { name := "fnExactCountShapes", fn := fun _ => fun
  | [d] => { results := [.lit (.bool false)], args := [d] }
  | _ => none }
def FnExactCountShapesWrongFalsely : Prop := fnExactCountShapesRow.holds Try.pinned (OpenSpec.ofChange fnExactCountShapesWrong)

/-- 'laws.FnExactFillOf': WHATEVER THE INPUT: true; the input reads as it did. -/
def fnExactFillOfSpec : ChangeSpec := { name := "fnExactFillOf", fn := fun _ => fun
  | [d] => { results := [.lit (.bool true)], args := [d] }
  | _ => none }
def fnExactFillOfRow : OpenClaim := { program := "ytgflgficfgieaaa", sum := "b7742f2e129ce822d2bbaaa765a249b8e298d9e8e3ac2d60b7c959fb6190d6e0", func := "loop.example/g01243/laws.FnExactFillOf", spec := "fnExactFillOf", unfollowed := true, recurses := true, apart := false }
def FnExactFillOfSaid : Prop := fnExactFillOfRow.holds Try.pinned (OpenSpec.ofChange fnExactFillOfSpec)

/-- ITS FALSE NEIGHBOUR: 'it returns false'. Refute it at one input. -/
def fnExactFillOfWrong : ChangeSpec := { name := "fnExactFillOf", fn := fun _ => fun
  | [d] => { results := [.lit (.bool false)], args := [d] }
  | _ => none }
def FnExactFillOfWrongFalsely : Prop := fnExactFillOfRow.holds Try.pinned (OpenSpec.ofChange fnExactFillOfWrong)

/-- 'laws.FnExactArePossible': WHATEVER THE INPUT: true; the input reads as it did. -/
def fnExactArePossibleSpec : ChangeSpec := { name := "fnExactArePossible", fn := fun _ => fun
  | [d] => { results := [.lit (.bool true)], args := [d] }
  | _ => none }
def fnExactArePossibleRow : OpenClaim := { program := "ytgflgficfgieaaa", sum := "b7742f2e129ce822d2bbaaa765a249b8e298d9e8e3ac2d60b7c959fb6190d6e0", func := "loop.example/g01243/laws.FnExactArePossible", spec := "fnExactArePossible", unfollowed := true, recurses := true, apart := false }
def FnExactArePossibleSaid : Prop := fnExactArePossibleRow.holds Try.pinned (OpenSpec.ofChange fnExactArePossibleSpec)

/-- ITS FALSE NEIGHBOUR: 'it returns false'. Refute it at one input. -/
def fnExactArePossibleWrong : ChangeSpec := { name := "fnExactArePossible", fn := fun _ => fun
  | [d] => { results := [.lit (.bool false)], args := [d] }
  | _ => none }
def FnExactArePossibleWrongFalsely : Prop := fnExactArePossibleRow.holds Try.pinned (OpenSpec.ofChange fnExactArePossibleWrong)

/-- 'laws.FnExactInOrderCode': WHATEVER THE INPUT: true; the input reads as it did. -/
def fnExactInOrderCodeSpec : ChangeSpec := { name := "fnExactInOrderCode", fn := fun _ => fun
  | [d] => { results := [.lit (.bool true)], args := [d] }
  | _ => none }
def fnExactInOrderCodeRow : OpenClaim := { program := "ytgflgficfgieaaa", sum := "b7742f2e129ce822d2bbaaa765a249b8e298d9e8e3ac2d60b7c959fb6190d6e0", func := "loop.example/g01243/laws.FnExactInOrderCode", spec := "fnExactInOrderCode", unfollowed := true, recurses := true, apart := false }
def FnExactInOrderCodeSaid : Prop := fnExactInOrderCodeRow.holds Try.pinned (OpenSpec.ofChange fnExactInOrderCodeSpec)

/-- ITS FALSE NEIGHBOUR: 'it returns false'. Refute it at one input. -/
def fnExactInOrderCodeWrong : ChangeSpec := { name := "fnExactInOrderCode", fn := fun _ => fun
  | [d] => { results := [.lit (.bool false)], args := [d] }
  | _ => none }
def FnExactInOrderCodeWrongFalsely : Prop := fnExactInOrderCodeRow.holds Try.pinned (OpenSpec.ofChange fnExactInOrderCodeWrong)

/- THE SECOND FORM. 'bulk': how many values and letters a reading holds, each counted each time it is reached (what is shared counts as often as it is met; a slice's spare places count too). A statement '..UptoSaid' is the law's where the arguments, and the package variables that the reading takes, are together of bulk at most 1048576: NARROWER than '..Said'. Prove '..Said' where nothing that the law and all that it calls make is longer than what came in: it says more and counts as full. Else prove '..UptoSaid'. A law counts once. -/
mutual
def uptoBulk {H : Type} : DataW H → Nat
  | .lit (.string bytes) => bytes.length + 1
  | .lit _ => 1
  | .nil => 1
  | .ptr d => uptoBulk d + 1
  | .slice elems spare => uptoBulkAll elems + uptoBulkAll spare + 1
  | .agg parts => uptoBulkAll parts + 1
  | .iface _ d => uptoBulk d + 1
  | .map entries => uptoBulkEntries entries + 1
  | .held _ => 1
def uptoBulkAll {H : Type} : List (DataW H) → Nat
  | [] => 0
  | d :: r => uptoBulk d + uptoBulkAll r
def uptoBulkEntries {H : Type} : List (Lit × DataW H) → Nat
  | [] => 0
  | x :: r => uptoBulkEntry x + uptoBulkEntries r
def uptoBulkEntry {H : Type} : Lit × DataW H → Nat
  | (.string bytes, d) => bytes.length + uptoBulk d + 1
  | (_, d) => uptoBulk d + 1
 end
def uptoSmall : (H : Type) → List (DataW H) → Bool := fun _ ds => decide (uptoBulkAll ds ≤ 1048576)
def OpenSpec.upto (s : _root_.Go.ChangeSpec) : _root_.Go.OpenSpec := { _root_.Go.OpenSpec.ofChange s with cond := some uptoSmall }

/-- 'laws.FnExactCountShapes', WHERE WHAT IT READS IS OF BULK AT MOST 1048576: true; the input reads as it did. -/
def fnExactCountShapesUptoRow : OpenClaim := { program := "ytgflgficfgieaaa", sum := "b7742f2e129ce822d2bbaaa765a249b8e298d9e8e3ac2d60b7c959fb6190d6e0", func := "loop.example/g01243/laws.FnExactCountShapes", spec := "fnExactCountShapes", apart := false, narrowed := true }
def FnExactCountShapesUptoSaid : Prop := fnExactCountShapesUptoRow.holds Try.pinned (OpenSpec.upto fnExactCountShapesSpec)

/-- 'laws.FnExactFillOf', WHERE WHAT IT READS IS OF BULK AT MOST 1048576: true; the input reads as it did. -/
def fnExactFillOfUptoRow : OpenClaim := { program := "ytgflgficfgieaaa", sum := "b7742f2e129ce822d2bbaaa765a249b8e298d9e8e3ac2d60b7c959fb6190d6e0", func := "loop.example/g01243/laws.FnExactFillOf", spec := "fnExactFillOf", unfollowed := true, recurses := true, apart := false, narrowed := true }
def FnExactFillOfUptoSaid : Prop := fnExactFillOfUptoRow.holds Try.pinned (OpenSpec.upto fnExactFillOfSpec)

/-- 'laws.FnExactArePossible', WHERE WHAT IT READS IS OF BULK AT MOST 1048576: true; the input reads as it did. -/
def fnExactArePossibleUptoRow : OpenClaim := { program := "ytgflgficfgieaaa", sum := "b7742f2e129ce822d2bbaaa765a249b8e298d9e8e3ac2d60b7c959fb6190d6e0", func := "loop.example/g01243/laws.FnExactArePossible", spec := "fnExactArePossible", unfollowed := true, recurses := true, apart := false, narrowed := true }
def FnExactArePossibleUptoSaid : Prop := fnExactArePossibleUptoRow.holds Try.pinned (OpenSpec.upto fnExactArePossibleSpec)

/-- 'laws.FnExactInOrderCode', WHERE WHAT IT READS IS OF BULK AT MOST 1048576: true; the input reads as it did. -/
def fnExactInOrderCodeUptoRow : OpenClaim := { program := "ytgflgficfgieaaa", sum := "b7742f2e129ce822d2bbaaa765a249b8e298d9e8e3ac2d60b7c959fb6190d6e0", func := "loop.example/g01243/laws.FnExactInOrderCode", spec := "fnExactInOrderCode", unfollowed := true, recurses := true, apart := false, narrowed := true }
def FnExactInOrderCodeUptoSaid : Prop := fnExactInOrderCodeUptoRow.holds Try.pinned (OpenSpec.upto fnExactInOrderCodeSpec)

end Rows
end Go.Proofs.Ytgflgficfgieaaa
