/- What one may not think of may be seen of the shape, but for order (the law FnShapeOdd): for every code the law answers true. No condition. -/
import Derived.Test.YtmkchdlkpbnldaaPick
import Derived.Test.YtmkchdlkpbnldaaJFnShapeOddyPBx3
namespace Go.Proofs.Ytmkchdlkpbnldaa.Pure
open Go.RowKit Go.Proofs.Ytmkchdlkpbnldaa.PB Go.Proofs.YtmkchdlkpbnldaaW.PrintWords Go.Proofs.YtmkchdlkpbnldaaW.PrintLast

theorem u8_of_wf {l : List Int} (h : ∀ x ∈ l, (Lit.int .u8 x).wf = true) : ∀ x ∈ l, 0 ≤ x ∧ x ≤ 255 := by
  intro x hx
  have := h x hx
  simp only [Lit.wf, Bool.and_eq_true, decide_eq_true_eq] at this
  have hmin : IntKind.u8.min = 0 := rfl
  have hmax : IntKind.u8.max = 255 := rfl
  omega
theorem open_some (l : List Int) (hl : ∀ x ∈ l, 0 ≤ x ∧ x ≤ 255) : ∃ b, spec_l6Open.f l = some (b, 0) ∧ b.length ≤ 2000 ∧ ∀ x ∈ b, 0 ≤ x ∧ x ≤ 255 := by
  unfold spec_l6Open.f
  by_cases h : (l.length : Int) > 2000
  · rw [if_pos h, if_pos (by omega)]
    exact ⟨_, rfl, by simp; omega, fun x hx => hl x (List.mem_of_mem_take hx)⟩
  · rw [if_neg h]
    exact ⟨_, rfl, by omega, hl⟩
/-- The law behind the draw. -/
def rest (k : Nat) (t : Int) : Option Bool := (spec_ShapeOdd.f k t).bind fun bt547 => ((impl_ShapeOdd.f t).bind fun bt555 => (if (bt555.2.2 != bt547.2.2) = true then (laws_FnShapeOdd.j0 k t bt547.2.2 bt555.2.2 true bt547.1 bt547.2.1 bt555.1 bt555.2.1) else ((laws_lpSame.f k bt555.1 bt555.2.1 bt547.1 bt547.2.1).bind fun t563 => (if t563 = true then (laws_FnShapeOdd.j0 k t bt547.2.2 bt555.2.2 (!bt555.2.2) bt547.1 bt547.2.1 bt555.1 bt555.2.1) else (laws_FnShapeOdd.j0 k t bt547.2.2 bt555.2.2 true bt547.1 bt547.2.1 bt555.1 bt555.2.1)))))
theorem FnShapeOdd : laws_FnShapeOdd.Pure := by
  intro l _ _ hw
  refine ⟨400, ?_⟩
  unfold laws_FnShapeOdd.f
  split
  · rfl
  obtain ⟨b, e, hb, hb8⟩ := open_some l (u8_of_wf hw)
  obtain ⟨r, e1, h0, h1⟩ := pick_some 399 b 0 9 hb hb8 (by omega) (by omega)
  have hd : spec_DrawShapeOdd.f 400 l = some (wrap64 (r - 1)) := by
    unfold spec_DrawShapeOdd.f
    rw [e]
    simp only [Option.bind_some]
    rw [e1]
    rfl
  rw [hd]
  simp only [Option.bind_some]
  show rest 400 (wrap64 (r - 1)) = some true
  clear hd e e1 hb hb8
  have hr : r = 0 ∨ r = 1 ∨ r = 2 ∨ r = 3 ∨ r = 4 ∨ r = 5 ∨ r = 6 ∨ r = 7 ∨ r = 8 := by omega
  rcases hr with rfl | rfl | rfl | rfl | rfl | rfl | rfl | rfl | rfl
  all_goals decide +kernel
end Go.Proofs.Ytmkchdlkpbnldaa.Pure
