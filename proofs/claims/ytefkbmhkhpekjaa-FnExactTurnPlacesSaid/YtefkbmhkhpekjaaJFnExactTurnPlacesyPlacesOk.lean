/- Places turned: what impl.TurnPlaces answers; the turned program is ok; turned back it is as it was. Plain Lean over the printed functions. No condition but that the program is short. -/
import Derived.Test.YtefkbmhkhpekjaaJFnExactTurnPlacesyRowOk
import Derived.Test.YtefkbmhkhpekjaaJFnExactTurnPlacesyMapOk
import Derived.Test.YtefkbmhkhpekjaaJFnExactTurnPlacesx1
namespace Go.Proofs.Ytefkbmhkhpekjaa.Pure
open Go.RowKit Go.Proofs.Ytefkbmhkhpekjaa.PB Go.Proofs.YtefkbmhkhpekjaaW.PrintWords Go.Proofs.YtefkbmhkhpekjaaW.PrintLast
set_option linter.unusedVariables false

def placesG (row : List Int) (d : S85) : S85 := if usB d.f0 = true then ⟨d.f0, rd row d.f1, d.f2⟩ else d
theorem places_kind (row : List Int) (d : S85) : (placesG row d).f0 = d.f0 := by
  unfold placesG; split <;> rfl
theorem places_rd {row : List Int} (h : rowB row 3 = true) : row.length = 3 ∧ ∀ x : Int, 0 ≤ x → x ≤ 2 → 0 ≤ rd row x ∧ rd row x ≤ 2 ∧ rd (backR row) (rd row x) = x := by
  rcases row_cases (n := 3) (by omega) (by omega) h with ⟨hn, _⟩ | ⟨hn, _⟩ | ⟨_, h⟩
  · cases hn
  · cases hn
  · have cs : ∀ x : Int, 0 ≤ x → x ≤ 2 → x = 0 ∨ x = 1 ∨ x = 2 := fun x h0 h2 => by omega
    rcases h with rfl | rfl | rfl | rfl | rfl | rfl <;> refine ⟨rfl, fun x h0 h2 => ?_⟩ <;> rcases cs x h0 h2 with rfl | rfl | rfl <;> decide
theorem places_do {row : List Int} (h : rowB row 3 = true) (d : S85) (hd : doB d.f0 d.f1 d.f2 = true) : doB (placesG row d).f0 (placesG row d).f1 (placesG row d).f2 = true := by
  unfold placesG
  by_cases hu : usB d.f0 = true
  · rw [if_pos hu]
    have hp := (do_parts hd).1
    rw [if_pos hu] at hp
    have hr := (places_rd h).2 _ hp.1 hp.2
    unfold doB at hd ⊢
    rw [if_pos hu] at hd ⊢
    simp only [Bool.and_eq_true] at hd ⊢
    refine ⟨⟨hd.1.1, ?_⟩, hd.2⟩
    unfold inR
    simp only [Bool.and_eq_true, decide_eq_true_eq]
    exact ⟨hr.1, hr.2.1⟩
  · rw [if_neg hu]; exact hd
theorem places_back {row : List Int} (h : rowB row 3 = true) (d : S85) (hd : doB d.f0 d.f1 d.f2 = true) : placesG (backR row) (placesG row d) = d := by
  unfold placesG
  by_cases hu : usB d.f0 = true
  · have hp := (do_parts hd).1
    rw [if_pos hu] at hp
    have hr := (places_rd h).2 _ hp.1 hp.2
    simp only [if_pos hu, hr.2.2]
  · simp only [if_neg hu]
theorem back_row {row : List Int} (h : rowB row 3 = true) : rowB (backR row) 3 = true ∧ (backR row).length ≤ 3 := by
  rcases row_cases (n := 3) (by omega) (by omega) h with ⟨hn, _⟩ | ⟨hn, _⟩ | ⟨_, h⟩
  · cases hn
  · cases hn
  · rcases h with rfl | rfl | rfl | rfl | rfl | rfl <;> decide
def placed (p : List (List S85)) (row : List Int) : List (List S85) × Bool := if okP p = true ∧ rowB row 3 = true then (mapP (placesG row) p, true) else ([], false)
theorem iPlaces (p : List (List S85)) (hp : Short p) (row : List Int) (hr : row.length ≤ 1048576) : Ev (fun k => impl_TurnPlaces.f k p row) (placed p row) := by
  unfold impl_TurnPlaces.f placed
  refine Ev.bind (iProg p hp) ?_
  by_cases h : okP p = true
  · simp only [if_pos h]
    refine Ev.bind (iRow row hr 3 (by omega)) ?_
    by_cases hb : rowB row 3 = true
    · rw [hb, if_pos ⟨h, rfl⟩]
      simp only [if_true]
      unfold impl_TurnPlaces.body
      refine Ev.bind (copy_ev p hp) ?_
      have hm := mapO_mapP (F := placesF row) (g := placesG row) p (fun t ht d hd => by
        have hdo := okP_do h t ht d hd
        have hpt := (do_parts hdo).1
        have hrl := (places_rd hb).1
        unfold placesF placesG
        rw [iUses, Option.bind_some]
        by_cases hu : usB d.f0 = true
        · rw [if_pos hu] at hpt
          rw [if_pos hu, if_pos hu, if_pos ⟨hpt.1, by omega⟩]
        · rw [if_neg hu, if_neg hu])
      simp only [hm, Option.bind_some]
      exact Ev.const
    · rw [show rowB row 3 = false by simpa using hb, if_neg (by simp)]
      simp only [Bool.false_eq_true, if_false]
      exact Ev.const
  · simp only [if_neg h]
    rw [if_neg (fun e => h e.1)]
    exact Ev.const
end Go.Proofs.Ytefkbmhkhpekjaa.Pure
