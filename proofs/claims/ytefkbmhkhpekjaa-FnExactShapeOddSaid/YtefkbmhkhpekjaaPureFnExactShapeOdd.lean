/- The program's ShapeOdd returns what the reference's returns, for all arguments: for every integer the law FnExactShapeOdd answers true. No condition. -/
import Derived.Test.YtefkbmhkhpekjaaPAx3
namespace Go.Proofs.Ytefkbmhkhpekjaa.Pure
open Go.RowKit Go.Proofs.Ytefkbmhkhpekjaa.PA Go.Proofs.YtefkbmhkhpekjaaW.PrintWords Go.Proofs.YtefkbmhkhpekjaaW.PrintLast

theorem FnExactShapeOdd : laws_FnExactShapeOdd.Pure := by
  intro a0 _
  refine ⟨60, ?_⟩
  by_cases h : 1 ≤ a0 ∧ a0 ≤ 6
  · have : a0 = 1 ∨ a0 = 2 ∨ a0 = 3 ∨ a0 = 4 ∨ a0 = 5 ∨ a0 = 6 := by omega
    rcases this with rfl | rfl | rfl | rfl | rfl | rfl <;> decide +kernel
  · have h1 : spec_ShapeOdd.f 60 a0 = some ([], [], false) := by
      have n1 : a0 ≠ 1 := by omega
      have n2 : a0 ≠ 2 := by omega
      have n3 : a0 ≠ 3 := by omega
      have n4 : a0 ≠ 4 := by omega
      have n5 : a0 ≠ 5 := by omega
      have n6 : a0 ≠ 6 := by omega
      simp [spec_ShapeOdd.f, spec_ShapeOdd.j0, n1, n2, n3, n4, n5, n6]
    have h2 : impl_ShapeOdd.f a0 = some ([], [], false) := by unfold impl_ShapeOdd.f; exact if_neg h
    unfold laws_FnExactShapeOdd.f
    rw [h1, h2]
    simp only [Option.bind_some]
    rw [show laws_eqSeen.f 60 [] [] [] [] = some true from by decide +kernel]
    simp only [Option.bind_some, if_true, laws_FnExactShapeOdd.j0]
    rw [h2, show laws_markSeen.f 59 [] [] 1 = some (1, [], []) from by decide +kernel]
    simp only [Option.bind_some]
    rw [show laws_heldSeen.f 59 [] [] 1 = some 1 from by decide +kernel, show laws_eqSeen.f 59 [] [] [] [] = some true from by decide +kernel]
    decide +kernel

end Go.Proofs.Ytefkbmhkhpekjaa.Pure
