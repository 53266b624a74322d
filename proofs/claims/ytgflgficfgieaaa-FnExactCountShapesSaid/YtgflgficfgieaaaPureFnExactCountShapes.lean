/-
  The program's CountShapes and the reference's CountShapes return the same for every number, told over the printed functions.
  Conditions: none.
-/
import Derived.Test.YtgflgficfgieaaaPFnExactCountShapesx1
namespace Go.Proofs.Ytgflgficfgieaaa.Pure
open Go.RowKit Go.Proofs.Ytgflgficfgieaaa.PFnExactCountShapes Go.Proofs.YtgflgficfgieaaaW.PrintWords Go.Proofs.YtgflgficfgieaaaW.PrintLast

theorem FnExactCountShapes : laws_FnExactCountShapes.Pure := by
  intro a0 _
  by_cases h : 1 ≤ a0 ∧ a0 ≤ 12
  · have : a0 = 1 ∨ a0 = 2 ∨ a0 = 3 ∨ a0 = 4 ∨ a0 = 5 ∨ a0 = 6 ∨ a0 = 7 ∨ a0 = 8 ∨ a0 = 9 ∨ a0 = 10 ∨ a0 = 11 ∨ a0 = 12 := by omega
    rcases this with rfl | rfl | rfl | rfl | rfl | rfl | rfl | rfl | rfl | rfl | rfl | rfl <;> exact ⟨300, by decide +kernel⟩
  · refine ⟨0, ?_⟩
    have hs : spec_l1In.f a0 1 12 = some false := by
      unfold spec_l1In.f
      split
      · simp; omega
      · rfl
    have hi : impl_in.f a0 1 12 = some false := by
      unfold impl_in.f
      split
      · simp; omega
      · rfl
    unfold laws_FnExactCountShapes.f spec_CountShapes.f impl_CountShapes.f
    rw [hs, hi]
    rfl

end Go.Proofs.Ytgflgficfgieaaa.Pure
