/- What is drawn of a shape: for every code some shape and some way. Plain Lean over the printed functions. -/
import Derived.Test.YtefkbmhkhpekjaaPick
import Derived.Test.YtefkbmhkhpekjaaPBx27
namespace Go.Proofs.Ytefkbmhkhpekjaa.Pure
open Go.RowKit Go.Proofs.Ytefkbmhkhpekjaa.PB Go.Proofs.YtefkbmhkhpekjaaW.PrintWords Go.Proofs.YtefkbmhkhpekjaaW.PrintLast

theorem u8_of_wf {l : List Int} (h : ∀ x ∈ l, (Lit.int .u8 x).wf = true) : ∀ x ∈ l, 0 ≤ x ∧ x ≤ 255 := by
  intro x hx
  have := h x hx
  simp only [Lit.wf, Bool.and_eq_true, decide_eq_true_eq] at this
  have hmin : IntKind.u8.min = 0 := rfl
  have hmax : IntKind.u8.max = 255 := rfl
  omega
theorem open_some (l : List Int) (hl : ∀ x ∈ l, 0 ≤ x ∧ x ≤ 255) : ∃ b, spec_l6Open.f l = some (b, 0) ∧ b.length ≤ 2000 ∧ ∀ x ∈ b, 0 ≤ x ∧ x ≤ 255 := by
  unfold spec_l6Open.f
  by_cases h : (l.length : Int) > 2000
  · rw [if_pos h, if_pos (by omega)]
    exact ⟨_, rfl, by simp; omega, fun x hx => hl x (List.mem_of_mem_take hx)⟩
  · rw [if_neg h]
    exact ⟨_, rfl, by omega, hl⟩
theorem drawShape_some (k : Nat) (l : List Int) (hl : ∀ x ∈ l, 0 ≤ x ∧ x ≤ 255) : ∃ s h, spec_DrawShapeOf.f (k + 1) l = some (s, h) := by
  obtain ⟨b, e, hb, hb8⟩ := open_some l hl
  unfold spec_DrawShapeOf.f
  rw [e]
  simp only [Option.bind_some]
  obtain ⟨r, e1, _⟩ := pick_some k b 0 6 hb hb8 (by omega) (by omega)
  rw [e1]
  simp only [Option.bind_some]
  split
  · obtain ⟨r2, e2, _⟩ := pick_some k b (0 + 1) 9 hb hb8 (by omega) (by omega)
    rw [e2]; simp only [Option.bind_some]
    obtain ⟨r3, e3, _⟩ := pick_some k b (0 + 1 + 1) 6 hb hb8 (by omega) (by omega)
    rw [e3]; exact ⟨_, _, rfl⟩
  · obtain ⟨r2, e2, _⟩ := pick_some k b (0 + 1) 6 hb hb8 (by omega) (by omega)
    rw [e2]; simp only [Option.bind_some]
    obtain ⟨r3, e3, _⟩ := pick_some k b (0 + 1 + 1) 4 hb hb8 (by omega) (by omega)
    rw [e3]; exact ⟨_, _, rfl⟩
end Go.Proofs.Ytefkbmhkhpekjaa.Pure
