/- Turned by nothing a program is as it was (the law FnTurnSame): for every code the law answers true. No condition. -/
import Derived.Test.YtefkbmhkhpekjaaJFnTurnSamex0
import Derived.Test.YtefkbmhkhpekjaaJFnTurnSameyTurnOk
import Derived.Test.YtefkbmhkhpekjaaJFnTurnSameyPlacesOk
import Derived.Test.YtefkbmhkhpekjaaJFnTurnSameyValsOk
import Derived.Test.YtefkbmhkhpekjaaJFnTurnSameyLpProg
namespace Go.Proofs.Ytefkbmhkhpekjaa.Pure
open Go.RowKit Go.Proofs.Ytefkbmhkhpekjaa.PB Go.Proofs.YtefkbmhkhpekjaaW.PrintWords Go.Proofs.YtefkbmhkhpekjaaW.PrintLast
set_option linter.unusedVariables false

theorem same_turn (p : List (List S85)) (h1 : 1 ≤ p.length) (h3 : p.length ≤ 3) : rowB (sameL p.length) p.length = true ∧ turnT p (sameL p.length) = p := by
  match p, h1, h3 with
  | [t], _, _ => exact ⟨show rowB (sameL 1) 1 = true from by decide, rfl⟩
  | [t, u], _, _ => exact ⟨show rowB (sameL 2) 2 = true from by decide, rfl⟩
  | [t, u, v], _, _ => exact ⟨show rowB (sameL 3) 3 = true from by decide, rfl⟩
  | a :: b :: c :: d :: l, _, h3 => exact absurd h3 (by simp)
theorem same_places {p : List (List S85)} (h : okP p = true) : mapP (placesG [0, 1, 2]) p = p := by
  refine mapP_id (fun t ht d hd => ?_)
  have hp := (do_parts (okP_do h t ht d hd)).1
  unfold placesG
  by_cases hu : usB d.f0 = true
  · rw [if_pos hu] at hp ⊢
    have e : rd [0, 1, 2] d.f1 = d.f1 := by
      have : d.f1 = 0 ∨ d.f1 = 1 ∨ d.f1 = 2 := by omega
      rcases this with h | h | h <;> rw [h] <;> rfl
    rw [e]
  · rw [if_neg hu]
theorem same_vals {p : List (List S85)} (h : okP p = true) : mapP (valsG [0, 1, 2, 3]) p = p := by
  refine mapP_id (fun t ht d hd => ?_)
  have hp := val_range (okP_do h t ht d hd)
  unfold valsG
  have e : rd [0, 1, 2, 3] d.f2 = d.f2 := by
    have : d.f2 = 0 ∨ d.f2 = 1 ∨ d.f2 = 2 ∨ d.f2 = 3 := by omega
    rcases this with h | h | h | h <;> rw [h] <;> rfl
  rw [e]
theorem FnTurnSame : laws_FnTurnSame.Pure := by
  intro l _ _ hw
  by_cases hl : (l.length : Int) > 1048576
  · exact ⟨0, [], [], [], false, false, .inl hl⟩
  obtain ⟨p, row, hp, hr, K1, e1⟩ := drawVals l hw
  have hs := hp.short
  obtain ⟨K2, e2⟩ := sVals p hs row (by omega)
  obtain ⟨K3, e3⟩ := iVals p hs row (by omega)
  have f2 : Short (valued p row).1 := by
    unfold valued
    split
    · exact mapP_short hs
    · exact ⟨by simp, by simp⟩
  obtain ⟨K4, e4⟩ := lpSelf _ f2
  obtain ⟨K5, e5⟩ := sProg p hs
  have st := same_turn p hp.1 hp.2.1
  obtain ⟨K6, e6⟩ := iTurn p hs hp.1 (sameL p.length) (by rw [sameL_length]; have := hp.2.1; omega)
  obtain ⟨K7, e7⟩ := iPlaces p hs [0, 1, 2] (by decide)
  obtain ⟨K8, e8⟩ := iVals p hs [0, 1, 2, 3] (by decide)
  obtain ⟨K9, e9⟩ := lpSelf p hs
  have h012 : rowB [0, 1, 2] 3 = true := by decide
  have h0123 : valRow [0, 1, 2, 3] = true := by decide
  refine ⟨K1 + K2 + K3 + K4 + K5 + K6 + K7 + K8 + K9, p, (valued p row).1, row, (valued p row).2, okP p, .inr ⟨e1 _ (by omega), e2 _ (by omega), e3 _ (by omega), e4 _ (by omega), e5 _ (by omega), hp.2.1, fun hk => ⟨?_, ?_, ?_, e9 _ (by omega)⟩⟩⟩
  · refine (e6 _ (by omega)).trans ?_
    unfold turned
    rw [if_pos ⟨hk, st.1⟩, st.2]
  · refine (e7 _ (by omega)).trans ?_
    unfold placed
    rw [if_pos ⟨hk, h012⟩, same_places hk]
  · refine (e8 _ (by omega)).trans ?_
    unfold valued
    rw [if_pos ⟨hk, h0123⟩, same_vals hk]
end Go.Proofs.Ytefkbmhkhpekjaa.Pure
