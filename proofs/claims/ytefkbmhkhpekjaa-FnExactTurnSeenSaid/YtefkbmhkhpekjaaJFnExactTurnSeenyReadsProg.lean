/- A program's reads counted: what the printed functions answer, each from some k on. Plain Lean; no condition but that nothing is longer than a machine can hold. -/
import Derived.Test.YtefkbmhkhpekjaaJFnExactTurnSeenyOkProg
import Derived.Test.YtefkbmhkhpekjaaJFnExactTurnSeenx2
namespace Go.Proofs.Ytefkbmhkhpekjaa.Pure
open Go.RowKit Go.Proofs.Ytefkbmhkhpekjaa.PB Go.Proofs.YtefkbmhkhpekjaaW.PrintWords Go.Proofs.YtefkbmhkhpekjaaW.PrintLast
set_option linter.unusedVariables false

theorem readsOfL (t : List S85) (ht : t.length ≤ 1048576) : ∀ (m : Nat) (n : Int), m ≤ t.length → 0 ≤ n → n + (m : Int) ≤ 100000000000 → Ev (fun k => impl_readsOf.l0 k n t (t.length : Int) ((t.length - m : Nat) : Int)) (n + readsI (t.drop (t.length - m)))
  | 0, n, _, _, _ => by
    refine Ev.succ (Ev.now fun k => ?_)
    simp [impl_readsOf.l0, readsI]
  | m + 1, n, hm, h0, h1 => by
    have hlt : t.length - (m + 1) < t.length := by omega
    have hd : t.drop (t.length - (m + 1)) = t[t.length - (m + 1)] :: t.drop (t.length - m) := by
      rw [List.drop_eq_getElem_cons hlt, show t.length - (m + 1) + 1 = t.length - m by omega]
    rw [hd]
    refine Ev.succ ?_
    simp only [impl_readsOf.l0, rd_T85_get hlt, iReads, Option.bind_some, readsI]
    simp only [if_pos (show ((t.length - (m + 1) : Nat) : Int) < (t.length : Int) by omega), if_pos (show (0 : Int) ≤ ((t.length - (m + 1) : Nat) : Int) by omega)]
    rw [w64' (x := ((t.length - (m + 1) : Nat) : Int) + 1) (by omega) (by omega), w64' (x := n + 1) (by omega) (by omega), show ((t.length - (m + 1) : Nat) : Int) + 1 = ((t.length - m : Nat) : Int) by omega]
    generalize t[t.length - (m + 1)] = d at *
    cases hr : rdB d.f0
    · simp only [Bool.false_eq_true, if_false]
      exact (readsOfL t ht m n (by omega) h0 (by omega)).of (by omega)
    · simp only [if_true]
      exact (readsOfL t ht m (n + 1) (by omega) (by omega) (by omega)).of (by omega)
theorem readsOf (t : List S85) (ht : t.length ≤ 1048576) : Ev (fun k => impl_readsOf.f k t) (readsI t) := by
  have := readsOfL t ht t.length 0 (Nat.le_refl _) (by omega) (by omega)
  rw [Nat.sub_self] at this
  exact this.of (by simp)
theorem readsL (p : List (List S85)) (hp : Short p) : ∀ (m : Nat) (n : Int), m ≤ p.length → 0 ≤ n → n + 1048576 * (m : Int) ≤ 100000000000 → Ev (fun k => impl_ProgReads.l0 k n p (p.length : Int) ((p.length - m : Nat) : Int)) (n + readsP (p.drop (p.length - m)))
  | 0, n, _, _, _ => by
    refine Ev.succ (Ev.now fun k => ?_)
    simp [impl_ProgReads.l0, readsP]
  | m + 1, n, hm, h0, h1 => by
    have hlt : p.length - (m + 1) < p.length := by omega
    have hd : p.drop (p.length - (m + 1)) = p[p.length - (m + 1)] :: p.drop (p.length - m) := by
      rw [List.drop_eq_getElem_cons hlt, show p.length - (m + 1) + 1 = p.length - m by omega]
    have hl := hp.at hlt
    have hp1 := hp.1
    have hr := readsI_le p[p.length - (m + 1)]
    rw [hd]
    refine Ev.succ ?_
    simp only [impl_ProgReads.l0, rd_L7_get hlt, readsP]
    simp only [if_pos (show ((p.length - (m + 1) : Nat) : Int) < (p.length : Int) by omega), if_pos (show (0 : Int) ≤ ((p.length - (m + 1) : Nat) : Int) by omega)]
    refine Ev.bind (readsOf _ hl) ?_
    rw [w64' (x := ((p.length - (m + 1) : Nat) : Int) + 1) (by omega) (by omega), w64' (by omega) (by omega), show ((p.length - (m + 1) : Nat) : Int) + 1 = ((p.length - m : Nat) : Int) by omega]
    exact (readsL p hp m _ (by omega) (by omega) (by omega)).of (by omega)
theorem progReads (p : List (List S85)) (hp : Short p) : Ev (fun k => impl_ProgReads.f k p) (if okP p = true then readsP p else -1) := by
  unfold impl_ProgReads.f
  refine Ev.bind (iProg p hp) ?_
  by_cases h : okP p = true
  · simp only [if_pos h]
    have := readsL p hp p.length 0 (Nat.le_refl _) (by omega) (by have := hp.1; omega)
    rw [Nat.sub_self] at this
    exact this.of (by simp)
  · simp only [if_neg h]
    exact Ev.const
end Go.Proofs.Ytefkbmhkhpekjaa.Pure
