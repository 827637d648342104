/- Threads turned: what impl.TurnThreads answers. Plain Lean over the printed functions. No condition but that the program is short. -/
import Derived.Test.YtefkbmhkhpekjaaJFnExactTurnThreadsyRowOk
import Derived.Test.YtefkbmhkhpekjaaJFnExactTurnThreadsx1
namespace Go.Proofs.Ytefkbmhkhpekjaa.Pure
open Go.RowKit Go.Proofs.Ytefkbmhkhpekjaa.PB Go.Proofs.YtefkbmhkhpekjaaW.PrintWords Go.Proofs.YtefkbmhkhpekjaaW.PrintLast
set_option linter.unusedVariables false

/-- The threads, turned. -/
def turnT (p : List (List S85)) (row : List Int) : List (List S85) := row.map (rd_L7 p)
theorem iTurnL (p : List (List S85)) (hp : Short p) (row : List Int) (hr : row.length ≤ 1000) (hin : ∀ x ∈ row, 0 ≤ x ∧ x < (p.length : Int)) : ∀ (m : Nat) (out : List (List S85)), m ≤ row.length → out.length + m ≤ 10000 →
    Ev (fun k => impl_TurnThreads.l0 k row (row.length : Int) ((row.length - m : Nat) : Int) p out) (out ++ turnT p (row.drop (row.length - m)), true)
  | 0, out, _, _ => by
    refine Ev.succ (Ev.now fun k => ?_)
    simp [impl_TurnThreads.l0, turnT]
  | m + 1, out, hm, ho => by
    have hlt : row.length - (m + 1) < row.length := by omega
    have hd : row.drop (row.length - (m + 1)) = row[row.length - (m + 1)] :: row.drop (row.length - m) := by
      rw [List.drop_eq_getElem_cons hlt, show row.length - (m + 1) + 1 = row.length - m by omega]
    have hx := hin _ (List.getElem_mem hlt)
    rw [hd]
    refine Ev.succ ?_
    have hs := hp.rd row[row.length - (m + 1)]
    simp only [impl_TurnThreads.l0, impl_Do_98.f, rd_get hlt, if_pos (show ((row.length - (m + 1) : Nat) : Int) < (row.length : Int) by omega), if_pos (show (0 : Int) ≤ ((row.length - (m + 1) : Nat) : Int) by omega), if_pos hx.1, if_pos hx.2, if_pos (show (rd_L7 p row[row.length - (m + 1)]).length < 1048577 by omega), Option.bind_some, if_pos (show out.length < 5864062014805 by omega)]
    rw [w64' (by omega) (by omega), show ((row.length - (m + 1) : Nat) : Int) + 1 = ((row.length - m : Nat) : Int) by omega]
    exact (iTurnL p hp row hr hin m (out ++ [rd_L7 p row[row.length - (m + 1)]]) (by omega) (by simp; omega)).of (by simp [turnT])
def turned (p : List (List S85)) (row : List Int) : List (List S85) × Bool := if okP p = true ∧ rowB row p.length = true then (turnT p row, true) else ([], false)
theorem row_len {row : List Int} {n : Nat} (h : rowB row n = true) : row.length = n := by
  unfold rowB at h
  rw [Bool.and_eq_true, decide_eq_true_eq] at h
  exact h.1
theorem row_in {row : List Int} {n : Nat} (h3 : n ≤ 3) (h : rowB row n = true) : ∀ x ∈ row, 0 ≤ x ∧ x < (n : Int) := by
  by_cases h0 : n = 0
  · intro x hx
    have := row_len h
    rw [h0] at this
    rw [List.length_eq_zero_iff.1 this] at hx
    cases hx
  have h1 : 1 ≤ n := by omega
  rcases row_cases h1 h3 h with ⟨rfl, rfl⟩ | ⟨rfl, rfl | rfl⟩ | ⟨rfl, rfl | rfl | rfl | rfl | rfl | rfl⟩ <;> simp
theorem okP_len {p : List (List S85)} (h : okP p = true) : p.length ≤ 3 := by
  unfold okP at h
  rw [Bool.and_eq_true, decide_eq_true_eq] at h
  exact h.1
theorem iTurn0 (p : List (List S85)) (hp : Short p) (row : List Int) (hr : row.length ≤ 1048576) : Ev (fun k => impl_TurnThreads.f k p row) (turned p row) := by
  unfold impl_TurnThreads.f turned
  refine Ev.bind (iProg p hp) ?_
  by_cases h : okP p = true
  · simp only [if_pos h]
    refine Ev.bind (iRow row hr p.length (by have := hp.1; omega)) (Ev.succ ?_)
    by_cases hb : rowB row p.length = true
    · rw [hb, if_pos ⟨h, rfl⟩]
      simp only [impl_TurnThreads.j0, Bool.not_true, Bool.false_eq_true, if_false]
      have := iTurnL p hp row (by have := row_len hb; have := hp.1; omega) (row_in (okP_len h) hb) row.length [] (Nat.le_refl _) (by have := row_len hb; have := hp.1; simp; omega)
      rw [Nat.sub_self] at this
      exact this
    · rw [show rowB row p.length = false by simpa using hb, if_neg (by simp)]
      simp only [impl_TurnThreads.j0, Bool.not_false, if_true]
      exact Ev.const
  · simp only [if_neg h]
    rw [if_neg (fun e => h e.1)]
    refine Ev.succ ?_
    simp only [impl_TurnThreads.j0, if_true]
    exact Ev.const
theorem iTurn (p : List (List S85)) (hp : Short p) (h1 : 1 ≤ p.length) (row : List Int) (hr : row.length ≤ 1000) : Ev (fun k => impl_TurnThreads.f k p row) (turned p row) := iTurn0 p hp row (by omega)
end Go.Proofs.Ytefkbmhkhpekjaa.Pure
