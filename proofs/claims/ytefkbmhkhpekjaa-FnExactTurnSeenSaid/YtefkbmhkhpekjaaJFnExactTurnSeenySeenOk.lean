/- When what is seen may be of a program: the two functions say the same. Plain Lean over the printed functions; no condition but the sizes. -/
import Derived.Test.YtefkbmhkhpekjaaJFnExactTurnSeenx2
import Derived.Test.YtefkbmhkhpekjaaJFnExactTurnSeenx3
import Derived.Test.YtefkbmhkhpekjaaJFnExactTurnSeenyReadsProg
import Derived.Test.YtefkbmhkhpekjaaJFnExactTurnSeenyExactProg
import Derived.Test.YtefkbmhkhpekjaaJFnExactTurnSeenyExactRow
namespace Go.Proofs.Ytefkbmhkhpekjaa.Pure
open Go.RowKit Go.Proofs.Ytefkbmhkhpekjaa.PB Go.Proofs.YtefkbmhkhpekjaaW.PrintWords Go.Proofs.YtefkbmhkhpekjaaW.PrintLast
set_option linter.unusedVariables false

theorem sReadsInner (p : List (List S85)) (x : Nat) (hx : x < p.length) (hl : p[x].length ≤ 1048576) (hp : p.length ≤ 1048576) (R : Int) : ∀ (m : Nat) (u : Int), m ≤ p[x].length → 0 ≤ u → u + (m : Int) ≤ 1000000000000 →
    Ev (fun k => spec_ProgReads.l0 k (u + readsI (p[x].drop (p[x].length - m))) ((x + 1 : Nat) : Int) p) R → Ev (fun k => spec_ProgReads.l1 k u x ((p[x].length - m : Nat) : Int) p) R
  | 0, u, _, _, _, h => by
    refine Ev.succ ?_
    simp only [spec_ProgReads.l1, rd_L7_get hx]
    rw [Nat.sub_zero, List.drop_length] at h
    simp only [readsI, Int.add_zero] at h
    simp only [if_pos (show (0 : Int) ≤ (x : Int) by omega), if_pos (show (x : Int) < (p.length : Int) by omega), Nat.sub_zero, Int.lt_irrefl, if_false]
    rw [w64' (by omega) (by omega)]
    exact h
  | m + 1, u, hm, h0, h1, h => by
    have hlt : p[x].length - (m + 1) < p[x].length := by omega
    have hd : p[x].drop (p[x].length - (m + 1)) = p[x][p[x].length - (m + 1)] :: p[x].drop (p[x].length - m) := by
      rw [List.drop_eq_getElem_cons hlt, show p[x].length - (m + 1) + 1 = p[x].length - m by omega]
    rw [hd] at h
    simp only [readsI] at h
    refine Ev.succ ?_
    simp only [spec_ProgReads.l1, rd_L7_get hx, rd_T85_get hlt, sReads, Option.bind_some]
    simp only [if_pos (show (0 : Int) ≤ (x : Int) by omega), if_pos (show (x : Int) < (p.length : Int) by omega), if_pos (show (((p[x].length - (m + 1) : Nat) : Int)) < (p[x].length : Int) by omega), if_pos (show (0 : Int) ≤ ((p[x].length - (m + 1) : Nat) : Int) by omega)]
    rw [w64' (x := ((p[x].length - (m + 1) : Nat) : Int) + 1) (by omega) (by omega), w64' (x := u + 1) (by omega) (by omega), show ((p[x].length - (m + 1) : Nat) : Int) + 1 = ((p[x].length - m : Nat) : Int) by omega]
    generalize p[x][p[x].length - (m + 1)] = d at *
    cases hr : rdB d.f0
    · rw [hr] at h
      simp only [Bool.false_eq_true, if_false, Int.zero_add] at h ⊢
      exact sReadsInner p x hx hl hp R m u (by omega) h0 (by omega) h
    · rw [hr] at h
      simp only [if_true] at h ⊢
      exact sReadsInner p x hx hl hp R m (u + 1) (by omega) (by omega) (by omega) (by rw [Int.add_assoc]; exact h)
theorem sReadsL (p : List (List S85)) (hp : Short p) : ∀ (m : Nat) (n : Int), m ≤ p.length → 0 ≤ n → n + 1048576 * (m : Int) ≤ 100000000000 → Ev (fun k => spec_ProgReads.l0 k n ((p.length - m : Nat) : Int) p) (n + readsP (p.drop (p.length - m)))
  | 0, n, _, _, _ => by
    refine Ev.succ (Ev.now fun k => ?_)
    simp [spec_ProgReads.l0, readsP]
  | m + 1, n, hm, h0, h1 => by
    have hlt : p.length - (m + 1) < p.length := by omega
    have hd : p.drop (p.length - (m + 1)) = p[p.length - (m + 1)] :: p.drop (p.length - m) := by
      rw [List.drop_eq_getElem_cons hlt, show p.length - (m + 1) + 1 = p.length - m by omega]
    have hl := hp.at hlt
    have hp1 := hp.1
    have hr := readsI_le p[p.length - (m + 1)]
    rw [hd]
    refine Ev.succ ?_
    simp only [spec_ProgReads.l0, readsP]
    simp only [if_pos (show ((p.length - (m + 1) : Nat) : Int) < (p.length : Int) by omega)]
    have := sReadsInner p (p.length - (m + 1)) hlt hl (by omega) (n + (readsI p[p.length - (m + 1)] + readsP (p.drop (p.length - m)))) p[p.length - (m + 1)].length n (Nat.le_refl _) h0 (by omega) (by
      rw [Nat.sub_self, List.drop_zero, show p.length - (m + 1) + 1 = p.length - m by omega]
      exact (sReadsL p hp m _ (by omega) (by omega) (by omega)).of (by omega))
    rw [Nat.sub_self] at this
    exact this
theorem sProgReads (p : List (List S85)) (hp : Short p) : Ev (fun k => spec_ProgReads.f k p) (if okP p = true then readsP p else -1) := by
  unfold spec_ProgReads.f
  refine Ev.bind (sProg p hp) ?_
  by_cases h : okP p = true
  · simp only [if_pos h]
    have := sReadsL p hp p.length 0 (Nat.le_refl _) (by omega) (by have := hp.1; omega)
    rw [Nat.sub_self] at this
    exact this.of (by simp)
  · simp only [if_neg h]
    exact Ev.const
theorem valB_eq (x : Int) : inR x 0 3 = valB x := rfl
theorem l2ValsL (l : List Int) (hl : l.length ≤ 1048576) : ∀ m : Nat, m ≤ l.length → Ev (fun k => spec_l2Vals.l0 k l ((l.length - m : Nat) : Int)) ((l.drop (l.length - m)).all valB)
  | 0, _ => by
    refine Ev.succ (Ev.now fun k => ?_)
    simp [spec_l2Vals.l0]
  | m + 1, hm => by
    have hlt : l.length - (m + 1) < l.length := by omega
    have hd : l.drop (l.length - (m + 1)) = l[l.length - (m + 1)] :: l.drop (l.length - m) := by
      rw [List.drop_eq_getElem_cons hlt, show l.length - (m + 1) + 1 = l.length - m by omega]
    have hr : rd l ((l.length - (m + 1) : Nat) : Int) = l[l.length - (m + 1)] := by
      unfold rd
      rw [Int.toNat_natCast, List.getD_eq_getElem?_getD, List.getElem?_eq_getElem hlt]
      rfl
    rw [hd, List.all_cons]
    refine Ev.succ ?_
    simp only [spec_l2Vals.l0, hr, sIn, Option.bind_some, valB_eq, if_pos (show ((l.length - (m + 1) : Nat) : Int) < (l.length : Int) by omega), if_pos (show (0 : Int) ≤ ((l.length - (m + 1) : Nat) : Int) by omega)]
    cases valB l[l.length - (m + 1)]
    · simp only [Bool.false_eq_true, if_false, Bool.false_and]
      exact Ev.const
    · simp only [if_true, Bool.true_and]
      rw [w64' (by omega) (by omega), show ((l.length - (m + 1) : Nat) : Int) + 1 = ((l.length - m : Nat) : Int) by omega]
      exact l2ValsL l hl m (by omega)
theorem l2Vals (l : List Int) (hl : l.length ≤ 1048576) : Ev (fun k => spec_l2Vals.f k l) (l.all valB) := by
  have := l2ValsL l hl l.length (Nat.le_refl _)
  rw [Nat.sub_self] at this
  exact this
def okS (p : List (List S85)) (sr sl : List Int) : Bool := okP p && decide ((sr.length : Int) = readsP p) && decide (sl.length = 3) && sr.all valB && sl.all valB
theorem iSeenOk (p : List (List S85)) (hp : Mid p) (sr sl : List Int) : Ev (fun k => impl_SeenOk.f k p sr sl) (okS p sr sl) := by
  unfold impl_SeenOk.f okS
  refine Ev.bind (iProgM p hp) ?_
  cases h : okP p
  · simp only [Bool.false_eq_true, if_false, Bool.false_and]
    exact Ev.const
  have h3 : p.length ≤ 3 := by
    unfold okP at h
    rw [Bool.and_eq_true, decide_eq_true_eq] at h
    exact h.1
  have hr := progReads p (hp.short h3)
  rw [if_pos h] at hr
  simp only [if_true, Bool.true_and]
  refine Ev.bind hr ?_
  by_cases h1 : (sr.length : Int) = readsP p
  · simp only [if_pos h1, decide_eq_true h1, Bool.true_and]
    by_cases h2 : (sl.length : Int) = 3
    · simp only [if_pos h2, decide_eq_true (show sl.length = 3 by omega), Bool.true_and, impl_valsOk.f, Option.bind_some]
      cases sr.all valB
      · simp only [Bool.false_eq_true, if_false, Bool.false_and]; exact Ev.const
      · simp only [if_true, Bool.true_and]; exact Ev.const
    · simp only [if_neg h2, decide_eq_false (show ¬ sl.length = 3 by omega), Bool.false_and]
      exact Ev.const
  · simp only [if_neg h1, decide_eq_false h1, Bool.false_and]
    exact Ev.const
theorem sSeenOk (p : List (List S85)) (hp : Mid p) (sr sl : List Int) (h4 : sr.length ≤ 1048576) (h5 : sl.length ≤ 1048576) : Ev (fun k => spec_SeenOk.f k p sr sl) (okS p sr sl) := by
  unfold spec_SeenOk.f okS
  refine Ev.bind (sProgM p hp) ?_
  cases h : okP p
  · simp only [Bool.false_eq_true, if_false, Bool.false_and]
    exact Ev.const
  have h3 : p.length ≤ 3 := by
    unfold okP at h
    rw [Bool.and_eq_true, decide_eq_true_eq] at h
    exact h.1
  have hr := sProgReads p (hp.short h3)
  rw [if_pos h] at hr
  simp only [if_true, Bool.true_and]
  refine Ev.bind hr ?_
  by_cases h1 : (sr.length : Int) = readsP p
  · simp only [if_pos h1, decide_eq_true h1, Bool.true_and]
    by_cases h2 : (sl.length : Int) = 3
    · simp only [if_pos h2, decide_eq_true (show sl.length = 3 by omega), Bool.true_and]
      refine Ev.bind (l2Vals sr h4) ?_
      cases sr.all valB
      · simp only [Bool.false_eq_true, if_false, Bool.false_and]; exact Ev.const
      · simp only [if_true, Bool.true_and]
        exact Ev.bind (l2Vals sl h5) Ev.const
    · simp only [if_neg h2, decide_eq_false (show ¬ sl.length = 3 by omega), Bool.false_and]
      exact Ev.const
  · simp only [if_neg h1, decide_eq_false h1, Bool.false_and]
    exact Ev.const
end Go.Proofs.Ytefkbmhkhpekjaa.Pure
