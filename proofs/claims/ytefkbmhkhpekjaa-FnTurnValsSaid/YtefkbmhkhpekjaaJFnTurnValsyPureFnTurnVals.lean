/- Values turned, and turned back, are as they were (the law FnTurnVals): for every code the law answers true. No condition. -/
import Derived.Test.YtefkbmhkhpekjaaJFnTurnValsx0
import Derived.Test.YtefkbmhkhpekjaaJFnTurnValsyValsOk
namespace Go.Proofs.Ytefkbmhkhpekjaa.Pure
open Go.RowKit Go.Proofs.Ytefkbmhkhpekjaa.PB Go.Proofs.YtefkbmhkhpekjaaW.PrintWords Go.Proofs.YtefkbmhkhpekjaaW.PrintLast
set_option linter.unusedVariables false

theorem backV_ev {row : List Int} (h : valRow row = true) : Ev (fun k => laws_lpBack.f k row) (backV row) := by
  rcases val_cases h with rfl | rfl | rfl | rfl | rfl | rfl <;>
    exact Ev.mono (k := 20) (fun k => laws_lpBack.mono _ k) (by decide +kernel)
theorem FnTurnVals : laws_FnTurnVals.Pure := by
  intro l _ _ hw
  by_cases hl : (l.length : Int) > 1048576
  · exact ⟨0, [], [], [], [], false, 0, .inl hl⟩
  obtain ⟨p, row, hp, hr, K1, e1⟩ := drawVals l hw
  have hs := hp.short
  obtain ⟨K2, e2⟩ := sVals p hs row (by omega)
  obtain ⟨K3, e3⟩ := iVals p hs row (by omega)
  by_cases h : okP p = true ∧ valRow row = true
  · have hb := back_val h.2
    have f2 : Short (mapP (valsG row) p) := mapP_short hs
    have f1 : okP (mapP (valsG row) p) = true := map_ok (g := valsG row) (fun _ => rfl) (vals_do h.2) h.1
    have f3 : mapP (valsG (backV row)) (mapP (valsG row) p) = p := by
      rw [mapP_mapP]
      exact mapP_id (fun t ht d hd => vals_back h.2 d (okP_do h.1 t ht d hd))
    unfold valued at e2 e3
    rw [if_pos h] at e2 e3
    obtain ⟨K4, e4⟩ := lpSelf _ f2
    obtain ⟨K5, e5⟩ := backV_ev h.2
    obtain ⟨K6, e6⟩ := iVals _ f2 (backV row) (by omega)
    unfold valued at e6
    rw [if_pos ⟨f1, hb.1⟩, f3] at e6
    obtain ⟨K7, e7⟩ := lpSelf p hs
    obtain ⟨K8, e8⟩ := iProg _ f2
    rw [f1] at e8
    exact ⟨K1 + K2 + K3 + K4 + K5 + K6 + K7 + K8, p, mapP (valsG row) p, row, backV row, true, 0, .inr ⟨e1 _ (by omega), e2 _ (by omega), e3 _ (by omega), e4 _ (by omega), fun _ => ⟨e5 _ (by omega), e6 _ (by omega), e7 _ (by omega), e8 _ (by omega)⟩⟩⟩
  · unfold valued at e2 e3
    rw [if_neg h] at e2 e3
    obtain ⟨K4, e4⟩ := lpSelf [] ⟨by simp, by simp⟩
    exact ⟨K1 + K2 + K3 + K4, p, [], row, [], false, 0, .inr ⟨e1 _ (by omega), e2 _ (by omega), e3 _ (by omega), e4 _ (by omega), fun h => by cases h⟩⟩
end Go.Proofs.Ytefkbmhkhpekjaa.Pure
