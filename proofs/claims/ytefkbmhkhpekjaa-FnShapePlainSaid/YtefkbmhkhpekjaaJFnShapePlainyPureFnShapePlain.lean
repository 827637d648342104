/- A shape with gives, made plain, is the plain one (the law FnShapePlain): for every code the law answers true. No condition. -/
import Derived.Test.YtefkbmhkhpekjaaJFnShapePlainx0
import Derived.Test.YtefkbmhkhpekjaaShapeNone
namespace Go.Proofs.Ytefkbmhkhpekjaa.Pure
open Go.RowKit Go.Proofs.Ytefkbmhkhpekjaa.PB Go.Proofs.YtefkbmhkhpekjaaW.PrintWords Go.Proofs.YtefkbmhkhpekjaaW.PrintLast

theorem FnShapePlain : laws_FnShapePlain.Pure := by
  intro l _ _ hw
  refine ⟨200, ?_⟩
  obtain ⟨s, h, e⟩ := drawShape_some 199 l (u8_of_wf hw)
  unfold laws_FnShapePlain.f
  split
  · rfl
  rw [e]
  simp only [Option.bind_some]
  clear e
  by_cases hc : (1 ≤ s ∧ s ≤ 6) ∧ (0 ≤ h ∧ h ≤ 3)
  · have hs : s = 1 ∨ s = 2 ∨ s = 3 ∨ s = 4 ∨ s = 5 ∨ s = 6 := by omega
    have hh : h = 0 ∨ h = 1 ∨ h = 2 ∨ h = 3 := by omega
    rcases hs with rfl | rfl | rfl | rfl | rfl | rfl <;> rcases hh with rfl | rfl | rfl | rfl <;> decide +kernel
  · rw [specShape_none 199 s h hc, implShape_none s h hc]
    simp only [Option.bind_some]
    rw [if_neg (by simp), show laws_lpProg.f 200 [] [] = some true from by decide +kernel]
    simp only [Option.bind_some, if_true]
    simp only [laws_FnShapePlain.j0, Bool.not_false, if_true]
    rw [if_pos (show (false == false) = true from rfl), show laws_lpProg.f 199 [] [] = some true from by decide +kernel]
    rfl
end Go.Proofs.Ytefkbmhkhpekjaa.Pure
