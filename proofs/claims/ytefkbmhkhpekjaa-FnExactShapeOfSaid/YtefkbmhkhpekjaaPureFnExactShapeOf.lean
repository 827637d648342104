/- The law FnExactShapeOf: at every shape and way ShapeOf answers as the specification, what it answers is its own, and stays so behind another call. No condition. -/
import Derived.Test.YtefkbmhkhpekjaaPAx5
import Derived.Test.YtefkbmhkhpekjaaShapeNone
namespace Go.Proofs.Ytefkbmhkhpekjaa.Pure
open Go.RowKit Go.Proofs.Ytefkbmhkhpekjaa.PA Go.Proofs.YtefkbmhkhpekjaaW.PrintWords Go.Proofs.YtefkbmhkhpekjaaW.PrintLast

def exactOf (s h : Int) : Bool := match spec_ShapeOf.f 200 s h, impl_ShapeOf.f s h with
  | some (x, b), some (x', b') => match laws_eqProg.f 200 x' x, laws_markDoSS.f 200 x' 1 with
    | some true, some (m, x2) => b' == b && laws_heldProg.f 200 x2 1 == some m && decide (0 ≤ m)
    | _, _ => false
  | _, _ => false
theorem exactOf_said {s h : Int} (e : exactOf s h = true) : ∃ k x x' x2 b m, spec_ShapeOf.f k s h = some (x, b) ∧ impl_ShapeOf.f s h = some (x', b) ∧ laws_eqProg.f k x' x = some true ∧ laws_markDoSS.f k x' 1 = some (m, x2) ∧ laws_heldProg.f k x2 1 = some m ∧ 0 ≤ m := by
  unfold exactOf at e
  split at e
  · rename_i x b x' b' e1 e2
    split at e
    · rename_i m x2 e3 e4
      simp only [Bool.and_eq_true, beq_iff_eq, decide_eq_true_eq] at e
      obtain ⟨⟨rfl, e5⟩, hm⟩ := e
      exact ⟨200, x, x', x2, _, m, e1, e2, e3, e4, e5, hm⟩
    · exact absurd e (by simp)
  · exact absurd e (by simp)
theorem FnExactShapeOf : laws_FnExactShapeOf.Pure := by
  intro s h _ _
  by_cases hc : (1 ≤ s ∧ s ≤ 6) ∧ (0 ≤ h ∧ h ≤ 3)
  · have hs : s = 1 ∨ s = 2 ∨ s = 3 ∨ s = 4 ∨ s = 5 ∨ s = 6 := by omega
    have hh : h = 0 ∨ h = 1 ∨ h = 2 ∨ h = 3 := by omega
    refine exactOf_said ?_
    rcases hs with rfl | rfl | rfl | rfl | rfl | rfl <;> rcases hh with rfl | rfl | rfl | rfl <;> decide +kernel
  · refine ⟨200, [], [], [], false, 1, specShape_none 199 s h hc, implShape_none s h hc, ?_, ?_, ?_, by decide⟩ <;> first | rfl | decide +kernel
end Go.Proofs.Ytefkbmhkhpekjaa.Pure
