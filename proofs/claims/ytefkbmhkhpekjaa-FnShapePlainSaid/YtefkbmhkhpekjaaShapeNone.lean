/- A shape, or a way, that there is not: both answer nothing. Plain Lean over the printed functions. -/
import Derived.Test.YtefkbmhkhpekjaaDrawShape
import Derived.Test.YtefkbmhkhpekjaaPBx28
import Derived.Test.YtefkbmhkhpekjaaPBx29
namespace Go.Proofs.Ytefkbmhkhpekjaa.Pure
open Go.RowKit Go.Proofs.Ytefkbmhkhpekjaa.PB Go.Proofs.YtefkbmhkhpekjaaW.PrintWords Go.Proofs.YtefkbmhkhpekjaaW.PrintLast

theorem specShape_none (k : Nat) (s h : Int) (hc : ¬ ((1 ≤ s ∧ s ≤ 6) ∧ (0 ≤ h ∧ h ≤ 3))) : spec_ShapeOf.f (k + 1) s h = some ([], false) := by
  unfold spec_ShapeOf.f spec_l6In.f
  by_cases h1 : s ≥ 1
  · rw [if_pos h1]
    by_cases h6 : s ≤ 6
    · simp only [h6, decide_true, Option.bind_some, if_true]
      by_cases g0 : h ≥ 0
      · have g3 : ¬ h ≤ 3 := by omega
        rw [if_pos g0]
        simp [g3, spec_ShapeOf.j0]
      · rw [if_neg g0]
        simp [spec_ShapeOf.j0]
    · simp [h6, spec_ShapeOf.j0]
  · rw [if_neg h1]
    simp [spec_ShapeOf.j0]
theorem implShape_none (s h : Int) (hc : ¬ ((1 ≤ s ∧ s ≤ 6) ∧ (0 ≤ h ∧ h ≤ 3))) : impl_ShapeOf.f s h = some ([], false) := by
  unfold impl_ShapeOf.f; exact if_neg hc
theorem cases24 {P : Int → Int → Prop} (hP : ∀ s h : Nat, 1 ≤ s → s ≤ 6 → h ≤ 3 → P s h) (s h : Int) (h1 : 1 ≤ s) (h6 : s ≤ 6) (g0 : 0 ≤ h) (g3 : h ≤ 3) : P s h := by
  obtain ⟨a, rfl⟩ := Int.eq_ofNat_of_zero_le (show 0 ≤ s by omega)
  obtain ⟨b, rfl⟩ := Int.eq_ofNat_of_zero_le g0
  exact hP a b (by omega) (by omega) (by omega)

end Go.Proofs.Ytefkbmhkhpekjaa.Pure
