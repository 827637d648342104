/- Two programs side by side: what the two functions answer. Plain Lean over the printed functions; no condition but the sizes. -/
import Derived.Test.YtefkbmhkhpekjaaPBx38
import Derived.Test.YtefkbmhkhpekjaaJFnTurnBesidex0
import Derived.Test.YtefkbmhkhpekjaaJFnTurnBesideyOkProg
namespace Go.Proofs.Ytefkbmhkhpekjaa.Pure
open Go.RowKit Go.Proofs.Ytefkbmhkhpekjaa.PB Go.Proofs.YtefkbmhkhpekjaaW.PrintWords Go.Proofs.YtefkbmhkhpekjaaW.PrintLast
set_option linter.unusedVariables false

theorem besCopyL (p : List (List S85)) (h1 : p.length ≤ 1048576) (h2 : ∀ t ∈ p, t.length ≤ 1048576) : ∀ (m : Nat) (acc : List (List S85)), m ≤ p.length → acc.length + m ≤ 100000000 → Ev (fun k => impl_Prog_copied.l0 k p (p.length : Int) ((p.length - m : Nat) : Int) acc) (acc ++ p.drop (p.length - m))
  | 0, acc, _, _ => by
    refine Ev.succ (Ev.now fun k => ?_)
    simp [impl_Prog_copied.l0]
  | m + 1, acc, hm, ha => by
    have hlt : p.length - (m + 1) < p.length := by omega
    have hd : p.drop (p.length - (m + 1)) = p[p.length - (m + 1)] :: p.drop (p.length - m) := by
      rw [List.drop_eq_getElem_cons hlt, show p.length - (m + 1) + 1 = p.length - m by omega]
    have hl := h2 _ (List.getElem_mem hlt)
    rw [hd]
    refine Ev.succ ?_
    simp only [impl_Prog_copied.l0, rd_L7_get hlt, impl_Do_98.f, if_pos (show p[p.length - (m + 1)].length < 1048577 by omega), Option.bind_some]
    simp only [if_pos (show ((p.length - (m + 1) : Nat) : Int) < (p.length : Int) by omega), if_pos (show (0 : Int) ≤ ((p.length - (m + 1) : Nat) : Int) by omega), if_pos (show acc.length < 5864062014805 by omega)]
    rw [w64' (by omega) (by omega), show ((p.length - (m + 1) : Nat) : Int) + 1 = ((p.length - m : Nat) : Int) by omega]
    exact (besCopyL p h1 h2 m _ (by omega) (by simp; omega)).of (by simp)
theorem besCopy (p : List (List S85)) (h1 : p.length ≤ 1048576) (h2 : ∀ t ∈ p, t.length ≤ 1048576) : Ev (fun k => impl_Prog_copied.f k p) p := by
  have := besCopyL p h1 h2 p.length [] (Nat.le_refl _) (by simp; omega)
  rw [Nat.sub_self] at this
  exact this
def beside (p q : List (List S85)) : List (List S85) × Bool := if okP p = true ∧ okP q = true ∧ okP (p ++ q) = true then (p ++ q, true) else ([], false)
theorem okP_le3 {p : List (List S85)} (h : okP p = true) : p.length ≤ 3 := by
  unfold okP at h
  rw [Bool.and_eq_true, decide_eq_true_eq] at h
  exact h.1
theorem iProgB (p : List (List S85)) (h2 : ∀ t ∈ p, t.length ≤ 1048576) (hl : p.length ≤ 4000000) : Ev (fun k => impl_ProgOk.f k p) (okP p) := by
  by_cases h : p.length ≤ 3
  · exact iProg p ⟨by omega, h2⟩
  · unfold impl_ProgOk.f okP
    simp only [if_pos (show (p.length : Int) > 3 by omega)]
    exact Ev.const.of (by rw [decide_eq_false h]; rfl)
theorem sProgB (p : List (List S85)) (h2 : ∀ t ∈ p, t.length ≤ 1048576) (hl : p.length ≤ 4000000) : Ev (fun k => spec_ProgOk.f k p) (okP p) := by
  by_cases h : p.length ≤ 3
  · exact sProg p ⟨by omega, h2⟩
  · unfold spec_ProgOk.f okP
    simp only [if_pos (show (p.length : Int) > 3 by omega)]
    exact Ev.const.of (by rw [decide_eq_false h]; rfl)
theorem mem_both {p q : List (List S85)} (hp : ∀ t ∈ p, t.length ≤ 1048576) (hq : ∀ t ∈ q, t.length ≤ 1048576) : ∀ t ∈ p ++ q, t.length ≤ 1048576 := fun t ht => (List.mem_append.1 ht).elim (hp t) (hq t)
theorem iBeside (p q : List (List S85)) (p1 : p.length ≤ 1048576) (p2 : ∀ t ∈ p, t.length ≤ 1048576) (q1 : q.length ≤ 1048576) (q2 : ∀ t ∈ q, t.length ≤ 1048576) : Ev (fun k => impl_TurnBeside.f k p q) (beside p q) := by
  unfold impl_TurnBeside.f beside
  refine Ev.bind (besCopy p p1 p2) (Ev.bind (besCopy q q1 q2) ?_)
  simp only [if_pos (show p.length ≤ 2097152 ∧ q.length ≤ 2097152 by omega)]
  unfold impl_TurnBeside.body
  refine Ev.bind (iProgB p p2 (by omega)) ?_
  cases hp : okP p
  · simp only [Bool.false_eq_true, if_false, false_and]
    exact Ev.const
  simp only [if_true, true_and]
  refine Ev.bind (iProgB q q2 (by omega)) ?_
  cases hq : okP q
  · simp only [Bool.false_eq_true, if_false, false_and]
    exact Ev.const
  simp only [if_true, true_and]
  exact Ev.bind (iProgB (p ++ q) (mem_both p2 q2) (by simp; omega)) Ev.const
theorem sBesideL1 (q : List (List S85)) (q1 : q.length ≤ 1000) (q2 : ∀ t ∈ q, t.length ≤ 1048576) (R : List (List S85) × Bool) : ∀ (m : Nat) (out : List (List S85)), m ≤ q.length → out.length + m ≤ 10000 →
    Ev (fun k => (spec_ProgOk.f k (out ++ q.drop (q.length - m))).bind fun t656 => (if t656 = true then (some (out ++ q.drop (q.length - m), true)) else (some (([] : List (List (S85))), false)))) R →
    Ev (fun k => spec_TurnBeside.l1 k ((q.length - m : Nat) : Int) q out) R
  | 0, out, _, _, h => by
    refine Ev.succ ?_
    simp only [spec_TurnBeside.l1, Nat.sub_zero, Int.lt_irrefl, if_false]
    simpa using h
  | m + 1, out, hm, ho, h => by
    have hlt : q.length - (m + 1) < q.length := by omega
    have hd : q.drop (q.length - (m + 1)) = q[q.length - (m + 1)] :: q.drop (q.length - m) := by
      rw [List.drop_eq_getElem_cons hlt, show q.length - (m + 1) + 1 = q.length - m by omega]
    have hl := q2 _ (List.getElem_mem hlt)
    rw [hd] at h
    refine Ev.succ ?_
    simp only [spec_TurnBeside.l1, Option.bind_some, rd_L7_get hlt, if_pos (show ((q.length - (m + 1) : Nat) : Int) < (q.length : Int) by omega), if_pos (show (0 : Int) ≤ ((q.length - (m + 1) : Nat) : Int) by omega), List.length_nil, Nat.zero_add, List.nil_append, if_pos (show q[q.length - (m + 1)].length < 5864062014805 by omega), if_pos (show out.length < 5864062014805 by omega)]
    rw [w64' (by omega) (by omega), show ((q.length - (m + 1) : Nat) : Int) + 1 = ((q.length - m : Nat) : Int) by omega]
    exact sBesideL1 q q1 q2 R m _ (by omega) (by simp; omega) (by simpa using h)
theorem sBesideL0 (p q : List (List S85)) (p1 : p.length ≤ 1000) (p2 : ∀ t ∈ p, t.length ≤ 1048576) (R : List (List S85) × Bool) : ∀ (m : Nat) (out : List (List S85)), m ≤ p.length → out.length + m ≤ 5000 →
    Ev (fun k => spec_TurnBeside.l1 k 0 q (out ++ p.drop (p.length - m))) R →
    Ev (fun k => spec_TurnBeside.l0 k ((p.length - m : Nat) : Int) p q out) R
  | 0, out, _, _, h => by
    refine Ev.succ ?_
    simp only [spec_TurnBeside.l0, Nat.sub_zero, Int.lt_irrefl, if_false]
    simpa using h
  | m + 1, out, hm, ho, h => by
    have hlt : p.length - (m + 1) < p.length := by omega
    have hd : p.drop (p.length - (m + 1)) = p[p.length - (m + 1)] :: p.drop (p.length - m) := by
      rw [List.drop_eq_getElem_cons hlt, show p.length - (m + 1) + 1 = p.length - m by omega]
    have hl := p2 _ (List.getElem_mem hlt)
    rw [hd] at h
    refine Ev.succ ?_
    simp only [spec_TurnBeside.l0, Option.bind_some, rd_L7_get hlt, if_pos (show ((p.length - (m + 1) : Nat) : Int) < (p.length : Int) by omega), if_pos (show (0 : Int) ≤ ((p.length - (m + 1) : Nat) : Int) by omega), List.length_nil, Nat.zero_add, List.nil_append, if_pos (show p[p.length - (m + 1)].length < 5864062014805 by omega), if_pos (show out.length < 5864062014805 by omega)]
    rw [w64' (by omega) (by omega), show ((p.length - (m + 1) : Nat) : Int) + 1 = ((p.length - m : Nat) : Int) by omega]
    exact sBesideL0 p q p1 p2 R m _ (by omega) (by simp; omega) (by simpa using h)
theorem sBeside (p q : List (List S85)) (p1 : p.length ≤ 1048576) (p2 : ∀ t ∈ p, t.length ≤ 1048576) (q1 : q.length ≤ 1048576) (q2 : ∀ t ∈ q, t.length ≤ 1048576) : Ev (fun k => spec_TurnBeside.f k p q) (beside p q) := by
  unfold spec_TurnBeside.f beside
  refine Ev.bind (sProgB p p2 (by omega)) ?_
  cases hp : okP p
  · simp only [Bool.false_eq_true, if_false, false_and]
    refine Ev.succ ?_
    simp only [spec_TurnBeside.j0, if_true]
    exact Ev.const
  simp only [if_true, true_and]
  refine Ev.bind (sProgB q q2 (by omega)) ?_
  cases hq : okP q
  · simp only [Bool.false_eq_true, if_false, false_and, Bool.not_false]
    refine Ev.succ ?_
    simp only [spec_TurnBeside.j0, if_true]
    exact Ev.const
  simp only [true_and, Bool.not_true]
  refine Ev.succ ?_
  simp only [spec_TurnBeside.j0, Bool.false_eq_true, if_false]
  have hp3 := okP_le3 hp
  have hq3 := okP_le3 hq
  have h0 := sBesideL0 p q (by omega) p2 (if okP (p ++ q) = true then (p ++ q, true) else ([], false)) p.length [] (Nat.le_refl _) (by simp; omega) (by
    have h1 := sBesideL1 q (by omega) q2 (if okP (p ++ q) = true then (p ++ q, true) else ([], false)) q.length p (Nat.le_refl _) (by omega) (by
      rw [Nat.sub_self, List.drop_zero]
      refine Ev.bind (sProgB (p ++ q) (mem_both p2 q2) (by simp; omega)) ?_
      cases okP (p ++ q)
      · simp only [Bool.false_eq_true, if_false]; exact Ev.const
      · simp only [if_true]; exact Ev.const)
    rw [Nat.sub_self] at h1
    simpa using h1)
  rw [Nat.sub_self] at h0
  exact h0
end Go.Proofs.Ytefkbmhkhpekjaa.Pure
