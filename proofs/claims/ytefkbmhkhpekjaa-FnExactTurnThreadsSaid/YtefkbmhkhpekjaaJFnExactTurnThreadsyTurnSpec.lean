/- Threads turned: the two functions answer the same; the turned program is ok, and has as many reads. Plain Lean over the printed functions. No condition but that the program is short. -/
import Derived.Test.YtefkbmhkhpekjaaJFnExactTurnThreadsyTurnOk
import Derived.Test.YtefkbmhkhpekjaaJFnExactTurnThreadsx0
namespace Go.Proofs.Ytefkbmhkhpekjaa.Pure
open Go.RowKit Go.Proofs.Ytefkbmhkhpekjaa.PB Go.Proofs.YtefkbmhkhpekjaaW.PrintWords Go.Proofs.YtefkbmhkhpekjaaW.PrintLast
set_option linter.unusedVariables false

theorem sTurnL (p : List (List S85)) (hp : Short p) (row : List Int) (hr : row.length ≤ 1000) (hin : ∀ x ∈ row, 0 ≤ x ∧ x < (p.length : Int)) : ∀ (m : Nat) (out : List (List S85)), m ≤ row.length → out.length + m ≤ 10000 →
    Ev (fun k => spec_TurnThreads.l0 k row ((row.length - m : Nat) : Int) p out) (out ++ turnT p (row.drop (row.length - m)), true)
  | 0, out, _, _ => by
    refine Ev.succ (Ev.now fun k => ?_)
    simp [spec_TurnThreads.l0, turnT]
  | m + 1, out, hm, ho => by
    have hlt : row.length - (m + 1) < row.length := by omega
    have hd : row.drop (row.length - (m + 1)) = row[row.length - (m + 1)] :: row.drop (row.length - m) := by
      rw [List.drop_eq_getElem_cons hlt, show row.length - (m + 1) + 1 = row.length - m by omega]
    have hx := hin _ (List.getElem_mem hlt)
    rw [hd]
    refine Ev.succ ?_
    have hs := hp.rd row[row.length - (m + 1)]
    simp only [spec_TurnThreads.l0, Option.bind_some, rd_get hlt, if_pos (show ((row.length - (m + 1) : Nat) : Int) < (row.length : Int) by omega), if_pos (show (0 : Int) ≤ ((row.length - (m + 1) : Nat) : Int) by omega), if_pos hx.1, if_pos hx.2, List.length_nil, Nat.zero_add, List.nil_append, if_pos (show (rd_L7 p row[row.length - (m + 1)]).length < 5864062014805 by omega), if_pos (show out.length < 5864062014805 by omega)]
    rw [w64' (by omega) (by omega), show ((row.length - (m + 1) : Nat) : Int) + 1 = ((row.length - m : Nat) : Int) by omega]
    exact (sTurnL p hp row hr hin m (out ++ [rd_L7 p row[row.length - (m + 1)]]) (by omega) (by simp; omega)).of (by simp [turnT])
theorem sTurn0 (p : List (List S85)) (hp : Short p) (row : List Int) (hr : row.length ≤ 1048576) : Ev (fun k => spec_TurnThreads.f k p row) (turned p row) := by
  unfold spec_TurnThreads.f turned
  refine Ev.bind (sProg p hp) ?_
  by_cases h : okP p = true
  · simp only [if_pos h]
    refine Ev.bind (sRow row hr p.length (by have := hp.1; omega)) (Ev.succ ?_)
    by_cases hb : rowB row p.length = true
    · rw [hb, if_pos ⟨h, rfl⟩]
      simp only [spec_TurnThreads.j0, Bool.not_true, Bool.false_eq_true, if_false]
      have := sTurnL p hp row (by have := row_len hb; have := hp.1; omega) (row_in (okP_len h) hb) row.length [] (Nat.le_refl _) (by have := row_len hb; have := hp.1; simp; omega)
      rw [Nat.sub_self] at this
      exact this
    · rw [show rowB row p.length = false by simpa using hb, if_neg (by simp)]
      simp only [spec_TurnThreads.j0, Bool.not_false, if_true]
      exact Ev.const
  · simp only [if_neg h]
    rw [if_neg (fun e => h e.1)]
    refine Ev.succ ?_
    simp only [spec_TurnThreads.j0, if_true]
    exact Ev.const
theorem sTurn (p : List (List S85)) (hp : Short p) (h1 : 1 ≤ p.length) (row : List Int) (hr : row.length ≤ 1000) : Ev (fun k => spec_TurnThreads.f k p row) (turned p row) := sTurn0 p hp row (by omega)
theorem turn_facts (p : List (List S85)) (hp : Short p) (h1 : 1 ≤ p.length) (h3 : p.length ≤ 3) (row : List Int) (h : rowB row p.length = true) :
    okP (turnT p row) = okP p ∧ Short (turnT p row) ∧ (turnT p row).length = p.length ∧ rowB (backR row) p.length = true ∧ (backR row).length ≤ 3 ∧ turnT (turnT p row) (backR row) = p ∧ readsP (turnT p row) = readsP p := by
  have sh : ∀ q : List (List S85), q.length ≤ 3 → (∀ t ∈ q, t ∈ p) → Short q := fun q hq hm => ⟨by omega, fun t ht => hp.2 t (hm t ht)⟩
  match p, h1, h3, h, sh with
  | [t], _, _, h, sh =>
    rcases row_cases (by simp) (by simp) h with ⟨_, rfl⟩ | ⟨hn, _⟩ | ⟨hn, _⟩
    · exact ⟨rfl, sh _ (by simp [turnT]) (by simp [turnT, rd_L7]), rfl, rfl, by simp [backR], rfl, rfl⟩
    · simp at hn
    · simp at hn
  | [t, u], _, _, h, sh =>
    rcases row_cases (by simp) (by simp) h with ⟨hn, _⟩ | ⟨_, rfl | rfl⟩ | ⟨hn, _⟩
    · simp at hn
    · exact ⟨rfl, sh _ (by simp [turnT]) (by simp [turnT, rd_L7]), rfl, rfl, by simp [backR], rfl, rfl⟩
    · refine ⟨?_, sh _ (by simp [turnT]) (by simp [turnT, rd_L7]), rfl, rfl, by simp [backR], rfl, ?_⟩
      · show okP [u, t] = okP [t, u]
        simp only [okP, okL, List.length_cons, List.length_nil, Int.zero_add]
        rw [Int.add_comm (u.length : Int), Int.add_comm (usesI u)]
        cases threadB t <;> cases threadB u <;> simp
      · show readsP [u, t] = readsP [t, u]
        simp only [readsP]; omega
    · simp at hn
  | [t, u, v], _, _, h, sh =>
    have ok : ∀ (x y z : List S85), ((x.length : Int) + y.length + z.length = (t.length : Int) + u.length + v.length) → usesI x + usesI y + usesI z = usesI t + usesI u + usesI v → (threadB x && (threadB y && threadB z)) = (threadB t && (threadB u && threadB v)) → okP [x, y, z] = okP [t, u, v] := by
      intro x y z e1 e2 e3
      simp only [okP, okL, List.length_cons, List.length_nil, Int.zero_add, e1, e2]
      rw [← Bool.and_assoc (threadB y), ← Bool.and_assoc (threadB x), ← Bool.and_assoc (threadB u), ← Bool.and_assoc (threadB t), e3]
    rcases row_cases (by simp) (by simp) h with ⟨hn, _⟩ | ⟨hn, _⟩ | ⟨_, rfl | rfl | rfl | rfl | rfl | rfl⟩
    · simp at hn
    · simp at hn
    · exact ⟨rfl, sh _ (by simp [turnT]) (by simp [turnT, rd_L7]), rfl, rfl, by simp [backR], rfl, rfl⟩
    · exact ⟨ok t v u (by omega) (by omega) (by cases threadB t <;> cases threadB u <;> cases threadB v <;> rfl), sh _ (by simp [turnT]) (by simp [turnT, rd_L7]), rfl, rfl, by simp [backR], rfl, by show readsP [t, v, u] = _; simp only [readsP]; omega⟩
    · exact ⟨ok u t v (by omega) (by omega) (by cases threadB t <;> cases threadB u <;> cases threadB v <;> rfl), sh _ (by simp [turnT]) (by simp [turnT, rd_L7]), rfl, rfl, by simp [backR], rfl, by show readsP [u, t, v] = _; simp only [readsP]; omega⟩
    · exact ⟨ok u v t (by omega) (by omega) (by cases threadB t <;> cases threadB u <;> cases threadB v <;> rfl), sh _ (by simp [turnT]) (by simp [turnT, rd_L7]), rfl, rfl, by simp [backR], rfl, by show readsP [u, v, t] = _; simp only [readsP]; omega⟩
    · exact ⟨ok v t u (by omega) (by omega) (by cases threadB t <;> cases threadB u <;> cases threadB v <;> rfl), sh _ (by simp [turnT]) (by simp [turnT, rd_L7]), rfl, rfl, by simp [backR], rfl, by show readsP [v, t, u] = _; simp only [readsP]; omega⟩
    · exact ⟨ok v u t (by omega) (by omega) (by cases threadB t <;> cases threadB u <;> cases threadB v <;> rfl), sh _ (by simp [turnT]) (by simp [turnT, rd_L7]), rfl, rfl, by simp [backR], rfl, by show readsP [v, u, t] = _; simp only [readsP]; omega⟩
  | a :: b :: c :: d :: l, _, h3, _, _ => exact absurd h3 (by simp)
end Go.Proofs.Ytefkbmhkhpekjaa.Pure
