/- A list that is all numbers below how many there are: the two functions say the same; what is drawn as such ends. Plain Lean over the printed functions. No condition but the lengths told. -/
import Derived.Test.YtefkbmhkhpekjaaJFnExactTurnSeenyOkProg
import Derived.Test.YtefkbmhkhpekjaaJFnExactTurnSeenx2
import Derived.Test.YtefkbmhkhpekjaaJFnExactTurnSeenx4
namespace Go.Proofs.Ytefkbmhkhpekjaa.Pure
open Go.RowKit Go.Proofs.Ytefkbmhkhpekjaa.PB Go.Proofs.YtefkbmhkhpekjaaW.PrintWords Go.Proofs.YtefkbmhkhpekjaaW.PrintLast
set_option linter.unusedVariables false

def hasB : List Int → Int → Bool
  | [], _ => false
  | a :: l, x => a == x || hasB l x
theorem rd_get {l : List Int} {n : Nat} (h : n < l.length) : rd l (n : Int) = l[n] := by
  unfold rd
  rw [Int.toNat_natCast, List.getD_eq_getElem?_getD, List.getElem?_eq_getElem h]
  rfl
theorem sHasL (l : List Int) (hl : l.length ≤ 1000) (x : Int) : ∀ m : Nat, m ≤ l.length → Ev (fun k => spec_l12Has.l0 k l x ((l.length - m : Nat) : Int)) (hasB (l.drop (l.length - m)) x)
  | 0, _ => by
    refine Ev.succ (Ev.now fun k => ?_)
    simp [spec_l12Has.l0, hasB]
  | m + 1, hm => by
    have hlt : l.length - (m + 1) < l.length := by omega
    have hd : l.drop (l.length - (m + 1)) = l[l.length - (m + 1)] :: l.drop (l.length - m) := by
      rw [List.drop_eq_getElem_cons hlt, show l.length - (m + 1) + 1 = l.length - m by omega]
    rw [hd]
    refine Ev.succ ?_
    simp only [spec_l12Has.l0, rd_get hlt, hasB, if_pos (show ((l.length - (m + 1) : Nat) : Int) < (l.length : Int) by omega), if_pos (show (0 : Int) ≤ ((l.length - (m + 1) : Nat) : Int) by omega)]
    rw [w64' (by omega) (by omega), show ((l.length - (m + 1) : Nat) : Int) + 1 = ((l.length - m : Nat) : Int) by omega]
    generalize l[l.length - (m + 1)] = a
    by_cases h : a = x
    · simp only [if_pos h]
      exact Ev.const.of (by simp [h])
    · simp only [if_neg h]
      exact (sHasL l hl x m (by omega)).of (by rw [show (a == x) = false by simpa using h]; rfl)
theorem sHas (l : List Int) (hl : l.length ≤ 1000) (x : Int) : Ev (fun k => spec_l12Has.f k l x) (hasB l x) := by
  have := sHasL l hl x l.length (Nat.le_refl _)
  rw [Nat.sub_self] at this
  exact this
theorem iIndexL (l : List Int) (hl : l.length ≤ 1000) (x : Int) : ∀ m : Nat, m ≤ l.length → ∃ r, Ev (fun k => slices_Index_int_int.l0 k l x (l.length : Int) ((l.length - m : Nat) : Int)) r ∧ decide (r ≥ 0) = hasB (l.drop (l.length - m)) x
  | 0, _ => by
    refine ⟨-1, Ev.succ (Ev.now fun k => ?_), by simp [hasB]⟩
    simp [slices_Index_int_int.l0]
  | m + 1, hm => by
    have hlt : l.length - (m + 1) < l.length := by omega
    have hd : l.drop (l.length - (m + 1)) = l[l.length - (m + 1)] :: l.drop (l.length - m) := by
      rw [List.drop_eq_getElem_cons hlt, show l.length - (m + 1) + 1 = l.length - m by omega]
    rw [hd]
    obtain ⟨r, e, hr⟩ := iIndexL l hl x m (by omega)
    by_cases h : l[l.length - (m + 1)] = x
    · refine ⟨((l.length - (m + 1) : Nat) : Int), Ev.succ ?_, by simp only [hasB, h, BEq.rfl, Bool.true_or, decide_eq_true_eq]; omega⟩
      simp only [slices_Index_int_int.l0, rd_get hlt, if_pos (show ((l.length - (m + 1) : Nat) : Int) < (l.length : Int) by omega), if_pos (show (0 : Int) ≤ ((l.length - (m + 1) : Nat) : Int) by omega), h, if_true]
      exact Ev.const
    · refine ⟨r, Ev.succ ?_, by rw [hr]; simp only [hasB, show (l[l.length - (m + 1)] == x) = false by simpa using h, Bool.false_or]⟩
      simp only [slices_Index_int_int.l0, rd_get hlt, if_pos (show ((l.length - (m + 1) : Nat) : Int) < (l.length : Int) by omega), if_pos (show (0 : Int) ≤ ((l.length - (m + 1) : Nat) : Int) by omega), if_neg (fun e => h (Eq.symm e) : ¬ x = l[l.length - (m + 1)])]
      rw [w64' (by omega) (by omega), show ((l.length - (m + 1) : Nat) : Int) + 1 = ((l.length - m : Nat) : Int) by omega]
      exact e
theorem iHas (l : List Int) (hl : l.length ≤ 1000) (x : Int) : Ev (fun k => slices_Contains_int_int.f k l x) (hasB l x) := by
  obtain ⟨r, e, hr⟩ := iIndexL l hl x l.length (Nat.le_refl _)
  rw [Nat.sub_self] at e hr
  unfold slices_Contains_int_int.f
  exact Ev.bind (F := fun k => slices_Index_int_int.f k l x) e (Ev.const.of (by rw [hr]; rfl))
/-- All numbers from n - m on, below n. -/
def fromB (l : List Int) (n : Nat) : Nat → Bool
  | 0 => true
  | m + 1 => hasB l ((n - (m + 1) : Nat) : Int) && fromB l n m
def rowB (l : List Int) (n : Nat) : Bool := decide (l.length = n) && fromB l n n
theorem sRowL (l : List Int) (hl : l.length ≤ 1000) (n : Nat) (hn : n ≤ 1000) : ∀ m : Nat, m ≤ n → Ev (fun k => spec_l22Row.l0 k l (n : Int) ((n - m : Nat) : Int)) (fromB l n m)
  | 0, _ => by
    refine Ev.succ (Ev.now fun k => ?_)
    simp [spec_l22Row.l0, fromB]
  | m + 1, hm => by
    refine Ev.succ ?_
    simp only [spec_l22Row.l0, fromB, if_pos (show ((n - (m + 1) : Nat) : Int) < (n : Int) by omega)]
    refine Ev.bind (sHas l hl _) ?_
    rw [w64' (by omega) (by omega), show ((n - (m + 1) : Nat) : Int) + 1 = ((n - m : Nat) : Int) by omega]
    cases hasB l ((n - (m + 1) : Nat) : Int)
    · simp only [Bool.false_eq_true, if_false]
      exact Ev.const
    · simp only [if_true]
      exact sRowL l hl n hn m (by omega)
theorem sRow (l : List Int) (hl : l.length ≤ 1048576) (n : Nat) (hn : n ≤ 1000) : Ev (fun k => spec_l22Row.f k l (n : Int)) (rowB l n) := by
  unfold spec_l22Row.f rowB
  by_cases h : l.length = n
  · simp only [if_pos (show (l.length : Int) = (n : Int) by omega)]
    have := sRowL l (by omega) n hn n (Nat.le_refl _)
    rw [Nat.sub_self] at this
    exact this.of (by simp [h])
  · simp only [if_neg (show ¬ (l.length : Int) = (n : Int) by omega)]
    exact Ev.const.of (by simp [h])
theorem iRowL (l : List Int) (hl : l.length ≤ 1000) (n : Nat) (hn : n ≤ 1000) : ∀ m : Nat, m ≤ n → Ev (fun k => impl_isRow.l0 k l (n : Int) ((n - m : Nat) : Int)) (fromB l n m)
  | 0, _ => by
    refine Ev.succ (Ev.now fun k => ?_)
    simp [impl_isRow.l0, fromB]
  | m + 1, hm => by
    refine Ev.succ ?_
    simp only [impl_isRow.l0, fromB, if_pos (show ((n - (m + 1) : Nat) : Int) < (n : Int) by omega)]
    refine Ev.bind (iHas l hl _) ?_
    rw [w64' (by omega) (by omega), show ((n - (m + 1) : Nat) : Int) + 1 = ((n - m : Nat) : Int) by omega]
    cases hasB l ((n - (m + 1) : Nat) : Int)
    · simp only [Bool.false_eq_true, if_false]
      exact Ev.const
    · simp only [if_true]
      exact iRowL l hl n hn m (by omega)
theorem iRow (l : List Int) (hl : l.length ≤ 1048576) (n : Nat) (hn : n ≤ 1000) : Ev (fun k => impl_isRow.f k l (n : Int)) (rowB l n) := by
  unfold impl_isRow.f rowB
  by_cases h : l.length = n
  · simp only [if_pos (show (l.length : Int) = (n : Int) by omega)]
    have := iRowL l (by omega) n hn n (Nat.le_refl _)
    rw [Nat.sub_self] at this
    exact this.of (by simp [h])
  · simp only [if_neg (show ¬ (l.length : Int) = (n : Int) by omega)]
    exact Ev.const.of (by simp [h])
theorem row1 {a : Int} (h : fromB [a] 1 1 = true) : a = 0 := by
  simp [fromB, hasB] at h
  omega
theorem row2 {a b : Int} (h : fromB [a, b] 2 2 = true) : (a = 0 ∧ b = 1) ∨ (a = 1 ∧ b = 0) := by
  simp [fromB, hasB] at h
  omega
theorem row3 {a b c : Int} (h : fromB [a, b, c] 3 3 = true) : (a = 0 ∧ b = 1 ∧ c = 2) ∨ (a = 0 ∧ b = 2 ∧ c = 1) ∨ (a = 1 ∧ b = 0 ∧ c = 2) ∨ (a = 1 ∧ b = 2 ∧ c = 0) ∨ (a = 2 ∧ b = 0 ∧ c = 1) ∨ (a = 2 ∧ b = 1 ∧ c = 0) := by
  simp [fromB, hasB] at h
  obtain ⟨h0, h1, h2⟩ := h
  rcases h0 with h0 | h0 | h0 <;> rcases h1 with h1 | h1 | h1 <;> (try omega) <;> rcases h2 with h2 | h2 | h2 <;> (try omega) <;> subst h0 <;> subst h1 <;> subst h2 <;> simp
/-- The nine ways to turn one, two or three. -/
theorem row_cases {row : List Int} {n : Nat} (h1 : 1 ≤ n) (h3 : n ≤ 3) (h : rowB row n = true) : (n = 1 ∧ row = [0]) ∨ (n = 2 ∧ (row = [0, 1] ∨ row = [1, 0])) ∨ (n = 3 ∧ (row = [0, 1, 2] ∨ row = [0, 2, 1] ∨ row = [1, 0, 2] ∨ row = [1, 2, 0] ∨ row = [2, 0, 1] ∨ row = [2, 1, 0])) := by
  unfold rowB at h
  rw [Bool.and_eq_true, decide_eq_true_eq] at h
  obtain ⟨hl, hf⟩ := h
  subst hl
  match row, h1, h3, hf with
  | [a], _, _, hf => obtain rfl := row1 hf; exact .inl ⟨rfl, rfl⟩
  | [a, b], _, _, hf =>
    rcases row2 hf with ⟨rfl, rfl⟩ | ⟨rfl, rfl⟩
    · exact .inr (.inl ⟨rfl, .inl rfl⟩)
    · exact .inr (.inl ⟨rfl, .inr rfl⟩)
  | [a, b, c], _, _, hf =>
    refine .inr (.inr ⟨rfl, ?_⟩)
    rcases row3 hf with ⟨rfl, rfl, rfl⟩ | ⟨rfl, rfl, rfl⟩ | ⟨rfl, rfl, rfl⟩ | ⟨rfl, rfl, rfl⟩ | ⟨rfl, rfl, rfl⟩ | ⟨rfl, rfl, rfl⟩ <;> simp
  | a :: b :: c :: d :: l, _, h3, _ => exact absurd h3 (by simp)
theorem row_len {row : List Int} {n : Nat} (h : rowB row n = true) : row.length = n := by
  unfold rowB at h
  rw [Bool.and_eq_true, decide_eq_true_eq] at h
  exact h.1
theorem row_in {row : List Int} {n : Nat} (h3 : n ≤ 3) (h : rowB row n = true) : ∀ x ∈ row, 0 ≤ x ∧ x < (n : Int) := by
  by_cases h0 : n = 0
  · intro x hx
    have := row_len h
    rw [h0] at this
    rw [List.length_eq_zero_iff.1 this] at hx
    cases hx
  have h1 : 1 ≤ n := by omega
  rcases row_cases h1 h3 h with ⟨rfl, rfl⟩ | ⟨rfl, rfl | rfl⟩ | ⟨rfl, rfl | rfl | rfl | rfl | rfl | rfl⟩ <;> simp
theorem okP_len {p : List (List S85)} (h : okP p = true) : p.length ≤ 3 := by
  unfold okP at h
  rw [Bool.and_eq_true, decide_eq_true_eq] at h
  exact h.1
end Go.Proofs.Ytefkbmhkhpekjaa.Pure
