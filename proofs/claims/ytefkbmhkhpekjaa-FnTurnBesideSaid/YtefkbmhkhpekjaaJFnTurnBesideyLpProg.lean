/- Programs compared: what the printed functions answer, each from some k on. Plain Lean; no condition but that nothing is longer than a machine can hold. -/
import Derived.Test.YtefkbmhkhpekjaaJFnTurnBesideyOkProg
import Derived.Test.YtefkbmhkhpekjaaPBx30
namespace Go.Proofs.Ytefkbmhkhpekjaa.Pure
open Go.RowKit Go.Proofs.Ytefkbmhkhpekjaa.PB Go.Proofs.YtefkbmhkhpekjaaW.PrintWords Go.Proofs.YtefkbmhkhpekjaaW.PrintLast
set_option linter.unusedVariables false

theorem lpInner (p : List (List S85)) (hp : Short p) (x : Nat) (hx : x < p.length) (R : Bool) (h : Ev (fun k => laws_lpProg.l0 k ((x + 1 : Nat) : Int) p p) R) : ∀ m : Nat, m ≤ p[x].length → Ev (fun k => laws_lpProg.l1 k x ((p[x].length - m : Nat) : Int) p p) R
  | 0, _ => by
    have := hp.1
    refine Ev.succ ?_
    simp only [laws_lpProg.l1, rd_L7_get hx, if_pos (show (0 : Int) ≤ (x : Int) by omega), if_pos (show (x : Int) < (p.length : Int) by omega), Nat.sub_zero, Int.lt_irrefl, if_false]
    rw [w64' (by omega) (by omega)]
    exact h
  | m + 1, hm => by
    have := hp.at hx
    refine Ev.succ ?_
    simp only [laws_lpProg.l1, rd_L7_get hx, if_pos (show (0 : Int) ≤ (x : Int) by omega), if_pos (show (x : Int) < (p.length : Int) by omega), if_pos (show ((p[x].length - (m + 1) : Nat) : Int) < (p[x].length : Int) by omega), if_pos (show (0 : Int) ≤ ((p[x].length - (m + 1) : Nat) : Int) by omega), BEq.rfl, Bool.not_true, Bool.or_self, Bool.false_eq_true, if_false]
    rw [w64' (by omega) (by omega), show ((p[x].length - (m + 1) : Nat) : Int) + 1 = ((p[x].length - m : Nat) : Int) by omega]
    exact lpInner p hp x hx R h m (by omega)
theorem lpL (p : List (List S85)) (hp : Short p) : ∀ m : Nat, m ≤ p.length → Ev (fun k => laws_lpProg.l0 k ((p.length - m : Nat) : Int) p p) true
  | 0, _ => by
    refine Ev.succ (Ev.now fun k => ?_)
    simp only [laws_lpProg.l0, Nat.sub_zero, Int.lt_irrefl, if_false]
  | m + 1, hm => by
    have hlt : p.length - (m + 1) < p.length := by omega
    refine Ev.succ ?_
    simp only [laws_lpProg.l0, if_pos (show ((p.length - (m + 1) : Nat) : Int) < (p.length : Int) by omega), if_pos (show (0 : Int) ≤ ((p.length - (m + 1) : Nat) : Int) by omega), if_true]
    have h := lpL p hp m (by omega)
    have := lpInner p hp (p.length - (m + 1)) hlt true (by rw [show p.length - (m + 1) + 1 = p.length - m by omega]; exact h) p[p.length - (m + 1)].length (Nat.le_refl _)
    rw [Nat.sub_self] at this
    exact this
/-- A program is the same as itself. -/
theorem lpSelf (p : List (List S85)) (hp : Short p) : Ev (fun k => laws_lpProg.f k p p) true := by
  unfold laws_lpProg.f
  simp only [if_true]
  have := lpL p hp p.length (Nat.le_refl _)
  rw [Nat.sub_self] at this
  exact this
end Go.Proofs.Ytefkbmhkhpekjaa.Pure
